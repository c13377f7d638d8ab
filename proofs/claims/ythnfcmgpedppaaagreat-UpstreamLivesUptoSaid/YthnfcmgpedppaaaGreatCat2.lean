/- The texts Te, FwL, FwM, FwN, FwQ, FwR, FwT, FwU, FwV, FwW, one behind the other: what the walks and plain laws need; conditions stand with each theorem. -/
import Derived.Test.YthnfcmgpedppaaaGreatProg
import Derived.Test.YthnfcmgpedppaaaGreatChecked
import Derived.Eval
import Derived.KernelRfl
import Derived.Laws.BytesArg
import Derived.Test.YthnfcmgpedppaaaGreatCat1
set_option linter.unusedVariables false
set_option linter.unusedSimpArgs false
set_option linter.unusedSectionVars false
set_option maxRecDepth 20000
set_option maxHeartbeats 4000000
namespace Go.Proofs.YthnfcmgpedppaaaGreat.Fw
open Go.RowKit
section
open Go.Proofs
def te:TE:=
 [(1,⟨.func,1,8,[.func]⟩),
  (2,⟨.int .i64,1,8,[.int .i64]⟩),
  (3,⟨.int .i64,1,8,[.int .i64]⟩),
  (4,⟨.bool,1,1,[.bool]⟩),
  (5,⟨.int .u8,1,1,[.int .u8]⟩),
  (6,⟨.int .u8,1,1,[.int .u8]⟩),
  (7,⟨.struct [(0,2),(1,3),(2,4),(3,6)],4,24,[.int .i64,.int .i64,.bool,.int .u8]⟩),
  (8,⟨.struct [(0,2),(1,3),(2,4),(3,6)],4,24,[.int .i64,.int .i64,.bool,.int .u8]⟩),
  (9,⟨.str,1,16,[.str]⟩),
  (10,⟨.str,1,16,[.str]⟩),
  (11,⟨.str,1,16,[.str]⟩),
  (12,⟨.int .u64,1,8,[.int .u64]⟩),
  (13,⟨.struct [(0,9),(1,12)],2,24,[.str,.int .u64]⟩),
  (14,⟨.struct [(0,9),(1,12)],2,24,[.str,.int .u64]⟩),
  (15,⟨.ptr 217,1,8,[.ptr]⟩),
  (16,⟨.ptr 220,1,8,[.ptr]⟩),
  (17,⟨.ptr 230,1,8,[.ptr]⟩),
  (18,⟨.struct [(0,17)],1,8,[.ptr]⟩),
  (19,⟨.struct [(0,17)],1,8,[.ptr]⟩),
  (20,⟨.iface true,1,16,[.iface]⟩),
  (21,⟨.int .i32,1,4,[.int .i32]⟩),
  (22,⟨.slice 37,1,24,[.slice]⟩),
  (23,⟨.slice 60,1,24,[.slice]⟩),
  (24,⟨.struct [(0,22),(1,23)],2,48,[.slice,.slice]⟩),
  (25,⟨.struct [(0,22),(1,23)],2,48,[.slice,.slice]⟩),
  (26,⟨.slice 48,1,24,[.slice]⟩),
  (27,⟨.func,1,8,[.func]⟩),
  (28,⟨.ptr 69,1,8,[.ptr]⟩),
  (29,⟨.int .i64,1,8,[.int .i64]⟩),
  (31,⟨.func,1,8,[.func]⟩),
  (32,⟨.ptr 72,1,8,[.ptr]⟩),
  (34,⟨.func,1,8,[.func]⟩),
  (35,⟨.slice 40,1,24,[.slice]⟩),
  (36,⟨.struct [(0,9),(1,35)],2,40,[.str,.slice]⟩),
  (37,⟨.struct [(0,9),(1,35)],2,40,[.str,.slice]⟩),
  (38,⟨.slice 5,1,24,[.slice]⟩),
  (39,⟨.struct [(0,9),(1,3),(2,3),(3,3),(4,38)],5,64,[.str,.int .i64,.int .i64,.int .i64,.slice]⟩),
  (40,⟨.struct [(0,9),(1,3),(2,3),(3,3),(4,38)],5,64,[.str,.int .i64,.int .i64,.int .i64,.slice]⟩),
  (41,⟨.func,1,8,[.func]⟩),
  (42,⟨.struct [(0,3),(1,4),(2,3),(3,4),(4,4),(5,4),(6,4),(7,3)],8,40,[.int .i64,.bool,.int .i64,.bool,.bool,.bool,.bool,.int .i64]⟩),
  (43,⟨.struct [(0,3),(1,4),(2,3),(3,4),(4,4),(5,4),(6,4),(7,3)],8,40,[.int .i64,.bool,.int .i64,.bool,.bool,.bool,.bool,.int .i64]⟩),
  (44,⟨.slice 110,1,24,[.slice]⟩),
  (45,⟨.struct [(0,43),(8,44),(9,35),(10,35),(11,35)],12,136,[.int .i64,.bool,.int .i64,.bool,.bool,.bool,.bool,.int .i64,.slice,.slice,.slice,.slice]⟩),
  (46,⟨.struct [(0,43),(8,44),(9,35),(10,35),(11,35)],12,136,[.int .i64,.bool,.int .i64,.bool,.bool,.bool,.bool,.int .i64,.slice,.slice,.slice,.slice]⟩),
  (47,⟨.struct [(0,3),(1,3),(2,38),(3,46),(15,3),(16,4)],17,192,[.int .i64,.int .i64,.slice,.int .i64,.bool,.int .i64,.bool,.bool,.bool,.bool,.int .i64,.slice,.slice,.slice,.slice,.int .i64,.bool]⟩),
  (48,⟨.struct [(0,3),(1,3),(2,38),(3,46),(15,3),(16,4)],17,192,[.int .i64,.int .i64,.slice,.int .i64,.bool,.int .i64,.bool,.bool,.bool,.bool,.int .i64,.slice,.slice,.slice,.slice,.int .i64,.bool]⟩),
  (49,⟨.func,1,8,[.func]⟩),
  (50,⟨.func,1,8,[.func]⟩),
  (51,⟨.int .u64,1,8,[.int .u64]⟩),
  (52,⟨.slice 38,1,24,[.slice]⟩),
  (54,⟨.func,1,8,[.func]⟩),
  (55,⟨.func,1,8,[.func]⟩),
  (56,⟨.func,1,8,[.func]⟩),
  (57,⟨.func,1,8,[.func]⟩),
  (58,⟨.slice 3,1,24,[.slice]⟩),
  (59,⟨.struct [(0,3),(1,58)],2,32,[.int .i64,.slice]⟩),
  (60,⟨.struct [(0,3),(1,58)],2,32,[.int .i64,.slice]⟩),
  (61,⟨.func,1,8,[.func]⟩),
  (62,⟨.func,1,8,[.func]⟩),
  (63,⟨.func,1,8,[.func]⟩),
  (64,⟨.func,1,8,[.func]⟩),
  (65,⟨.func,1,8,[.func]⟩),
  (66,⟨.func,1,8,[.func]⟩),
  (67,⟨.map 3 73,1,8,[.map]⟩),
  (68,⟨.struct [(0,25),(2,67)],3,56,[.slice,.slice,.map]⟩),
  (69,⟨.struct [(0,25),(2,67)],3,56,[.slice,.slice,.map]⟩),
  (70,⟨.slice 76,1,24,[.slice]⟩),
  (71,⟨.struct [(0,25),(2,70)],3,72,[.slice,.slice,.slice]⟩),
  (72,⟨.struct [(0,25),(2,70)],3,72,[.slice,.slice,.slice]⟩),
  (73,⟨.ptr 118,1,8,[.ptr]⟩),
  (74,⟨.ptr 122,1,8,[.ptr]⟩),
  (75,⟨.struct [(0,3),(1,74)],2,16,[.int .i64,.ptr]⟩),
  (76,⟨.struct [(0,3),(1,74)],2,16,[.int .i64,.ptr]⟩),
  (77,⟨.func,1,8,[.func]⟩),
  (78,⟨.func,1,8,[.func]⟩),
  (79,⟨.func,1,8,[.func]⟩),
  (80,⟨.func,1,8,[.func]⟩),
  (81,⟨.func,1,8,[.func]⟩),
  (82,⟨.func,1,8,[.func]⟩),
  (83,⟨.func,1,8,[.func]⟩),
  (84,⟨.func,1,8,[.func]⟩),
  (86,⟨.func,1,8,[.func]⟩),
  (88,⟨.func,1,8,[.func]⟩),
  (89,⟨.map 9 4,1,8,[.map]⟩),
  (90,⟨.func,1,8,[.func]⟩),
  (91,⟨.func,1,8,[.func]⟩),
  (92,⟨.func,1,8,[.func]⟩),
  (93,⟨.func,1,8,[.func]⟩),
  (94,⟨.func,1,8,[.func]⟩),
  (95,⟨.func,1,8,[.func]⟩),
  (96,⟨.func,1,8,[.func]⟩),
  (97,⟨.func,1,8,[.func]⟩),
  (98,⟨.func,1,8,[.func]⟩),
  (99,⟨.func,1,8,[.func]⟩),
  (100,⟨.func,1,8,[.func]⟩),
  (101,⟨.func,1,8,[.func]⟩),
  (102,⟨.ptr 105,1,8,[.ptr]⟩),
  (103,⟨.slice 149,1,24,[.slice]⟩),
  (104,⟨.struct [(0,38),(1,103)],2,48,[.slice,.slice]⟩),
  (105,⟨.struct [(0,38),(1,103)],2,48,[.slice,.slice]⟩),
  (106,⟨.func,1,8,[.func]⟩),
  (107,⟨.arr 4 3,4,32,[.int .i64,.int .i64,.int .i64,.int .i64]⟩),
  (108,⟨.func,1,8,[.func]⟩),
  (109,⟨.struct [(0,9),(1,3),(2,3)],3,32,[.str,.int .i64,.int .i64]⟩),
  (110,⟨.struct [(0,9),(1,3),(2,3)],3,32,[.str,.int .i64,.int .i64]⟩),
  (111,⟨.func,1,8,[.func]⟩),
  (112,⟨.func,1,8,[.func]⟩),
  (113,⟨.func,1,8,[.func]⟩),
  (114,⟨.func,1,8,[.func]⟩),
  (115,⟨.struct [(0,38)],1,24,[.slice]⟩),
  (116,⟨.struct [(0,38)],1,24,[.slice]⟩),
  (117,⟨.struct [(0,116),(1,4)],2,32,[.slice,.bool]⟩),
  (118,⟨.struct [(0,116),(1,4)],2,32,[.slice,.bool]⟩),
  (120,⟨.func,1,8,[.func]⟩),
  (121,⟨.struct [(0,38)],1,24,[.slice]⟩),
  (122,⟨.struct [(0,38)],1,24,[.slice]⟩),
  (124,⟨.func,1,8,[.func]⟩),
  (125,⟨.ptr 127,1,8,[.ptr]⟩),
  (126,⟨.struct [(0,38),(1,3)],2,32,[.slice,.int .i64]⟩),
  (127,⟨.struct [(0,38),(1,3)],2,32,[.slice,.int .i64]⟩),
  (129,⟨.func,1,8,[.func]⟩),
  (131,⟨.func,1,8,[.func]⟩),
  (132,⟨.func,1,8,[.func]⟩),
  (133,⟨.func,1,8,[.func]⟩),
  (134,⟨.ptr 46,1,8,[.ptr]⟩),
  (135,⟨.map 3 4,1,8,[.map]⟩),
  (136,⟨.func,1,8,[.func]⟩),
  (137,⟨.func,1,8,[.func]⟩),
  (138,⟨.func,1,8,[.func]⟩),
  (139,⟨.func,1,8,[.func]⟩),
  (140,⟨.func,1,8,[.func]⟩),
  (142,⟨.func,1,8,[.func]⟩),
  (143,⟨.func,1,8,[.func]⟩),
  (144,⟨.func,1,8,[.func]⟩),
  (145,⟨.func,1,8,[.func]⟩),
  (146,⟨.func,1,8,[.func]⟩),
  (147,⟨.func,1,8,[.func]⟩),
  (148,⟨.struct [(0,9),(1,3)],2,24,[.str,.int .i64]⟩),
  (149,⟨.struct [(0,9),(1,3)],2,24,[.str,.int .i64]⟩),
  (150,⟨.slice 9,1,24,[.slice]⟩),
  (151,⟨.func,1,8,[.func]⟩),
  (152,⟨.ptr 116,1,8,[.ptr]⟩),
  (154,⟨.ptr 156,1,8,[.ptr]⟩),
  (155,⟨.struct [(0,38),(1,3)],2,32,[.slice,.int .i64]⟩),
  (156,⟨.struct [(0,38),(1,3)],2,32,[.slice,.int .i64]⟩),
  (157,⟨.func,1,8,[.func]⟩),
  (158,⟨.func,1,8,[.func]⟩),
  (159,⟨.ptr 162,1,8,[.ptr]⟩),
  (160,⟨.map 9 3,1,8,[.map]⟩),
  (161,⟨.struct [(0,38),(1,160)],2,32,[.slice,.map]⟩),
  (162,⟨.struct [(0,38),(1,160)],2,32,[.slice,.map]⟩),
  (163,⟨.func,1,8,[.func]⟩),
  (164,⟨.func,1,8,[.func]⟩),
  (165,⟨.arr 6 3,6,48,[.int .i64,.int .i64,.int .i64,.int .i64,.int .i64,.int .i64]⟩),
  (167,⟨.func,1,8,[.func]⟩),
  (168,⟨.func,1,8,[.func]⟩),
  (170,⟨.func,1,8,[.func]⟩),
  (171,⟨.func,1,8,[.func]⟩),
  (172,⟨.func,1,8,[.func]⟩),
  (173,⟨.func,1,8,[.func]⟩),
  (174,⟨.func,1,8,[.func]⟩),
  (176,⟨.func,1,8,[.func]⟩),
  (177,⟨.func,1,8,[.func]⟩),
  (178,⟨.func,1,8,[.func]⟩),
  (179,⟨.struct [(0,9),(1,9),(2,3),(3,3),(4,3),(5,3),(6,3)],7,72,[.str,.str,.int .i64,.int .i64,.int .i64,.int .i64,.int .i64]⟩),
  (180,⟨.struct [(0,9),(1,9),(2,3),(3,3),(4,3),(5,3),(6,3)],7,72,[.str,.str,.int .i64,.int .i64,.int .i64,.int .i64,.int .i64]⟩),
  (182,⟨.func,1,8,[.func]⟩),
  (183,⟨.func,1,8,[.func]⟩),
  (184,⟨.func,1,8,[.func]⟩),
  (185,⟨.arr 2 35,2,48,[.slice,.slice]⟩),
  (186,⟨.slice 185,1,24,[.slice]⟩),
  (187,⟨.func,1,8,[.func]⟩),
  (188,⟨.func,1,8,[.func]⟩),
  (189,⟨.func,1,8,[.func]⟩),
  (190,⟨.ptr 35,1,8,[.ptr]⟩),
  (191,⟨.slice 190,1,24,[.slice]⟩),
  (192,⟨.func,1,8,[.func]⟩),
  (193,⟨.func,1,8,[.func]⟩),
  (194,⟨.func,1,8,[.func]⟩),
  (195,⟨.func,1,8,[.func]⟩),
  (196,⟨.func,1,8,[.func]⟩),
  (197,⟨.func,1,8,[.func]⟩),
  (198,⟨.arr 5 3,5,40,[.int .i64,.int .i64,.int .i64,.int .i64,.int .i64]⟩),
  (199,⟨.arr 5 4,5,5,[.bool,.bool,.bool,.bool,.bool]⟩),
  (200,⟨.func,1,8,[.func]⟩),
  (201,⟨.slice 35,1,24,[.slice]⟩),
  (202,⟨.func,1,8,[.func]⟩),
  (203,⟨.arr 4 4,4,4,[.bool,.bool,.bool,.bool]⟩),
  (204,⟨.func,1,8,[.func]⟩),
  (206,⟨.func,1,8,[.func]⟩),
  (207,⟨.ptr 3,1,8,[.ptr]⟩),
  (208,⟨.slice 207,1,24,[.slice]⟩),
  (209,⟨.func,1,8,[.func]⟩),
  (210,⟨.func,1,8,[.func]⟩),
  (211,⟨.func,1,8,[.func]⟩),
  (213,⟨.func,1,8,[.func]⟩),
  (214,⟨.map 3 3,1,8,[.map]⟩),
  (215,⟨.func,1,8,[.func]⟩),
  (216,⟨.struct [(0,17),(1,17),(2,17),(3,9)],4,40,[.ptr,.ptr,.ptr,.str]⟩),
  (217,⟨.struct [(0,17),(1,17),(2,17),(3,9)],4,40,[.ptr,.ptr,.ptr,.str]⟩),
  (218,⟨.arr 0 16,0,0,[]⟩),
  (219,⟨.struct [(0,218)],0,0,[]⟩),
  (220,⟨.struct [(0,218)],0,0,[]⟩),
  (221,⟨.func,1,8,[.func]⟩),
  (222,⟨.int .u32,1,4,[.int .u32]⟩),
  (223,⟨.int .u8,1,1,[.int .u8]⟩),
  (224,⟨.int .u8,1,1,[.int .u8]⟩),
  (225,⟨.func,1,8,[.func]⟩),
  (226,⟨.ptr 5,1,8,[.ptr]⟩),
  (227,⟨.int .i32,1,4,[.int .i32]⟩),
  (228,⟨.int .i32,1,4,[.int .i32]⟩),
  (229,⟨.struct [(0,12),(1,12),(2,222),(3,223),(4,5),(5,5),(6,224),(7,225),(8,226),(9,227),(10,228)],11,48,[.int .u64,.int .u64,.int .u32,.int .u8,.int .u8,.int .u8,.int .u8,.func,.ptr,.int .i32,.int .i32]⟩),
  (230,⟨.struct [(0,12),(1,12),(2,222),(3,223),(4,5),(5,5),(6,224),(7,225),(8,226),(9,227),(10,228)],11,48,[.int .u64,.int .u64,.int .u32,.int .u8,.int .u8,.int .u8,.int .u8,.func,.ptr,.int .i32,.int .i32]⟩)]
theorem te_ok:TEok Tryz.prog te:=by
 unfold TEok
 kernel_rfl
theorem cE:Tryz.prog.follows .mixedOrders=true:=Checked.mixed Tryz.checked
end
structure DS where
 i:Nat
 rt:List Nat
 rh:List Nat
 d:Option Nat
 x:AV
 wh:List (Nat×AObj)
def AS.seto (s:AS):List (Nat×AObj)→AS
 | []=>s
 | (k,ob)::r=>(AS.seto s r).seth k (some ob)
theorem AS.seto_t (s:AS):∀ l,(s.seto l).t=s.t
 | []=>rfl
 | (_,_)::r=>AS.seto_t s r
def r9:List (Nat×AObj)→Nat→Option AObj
 | [],_=>none
 | (j,ob)::r,k=>if k=j then some ob else r9 r k
theorem mE:∀ {l:List (Nat×AObj)} {k:Nat} {ob:AObj},r9 l k=some ob→∃ p∈l,p.1=k
 | [],_,_,h=>by cases h
 | (j,o2)::r,k,ob,h=>by
  simp only [r9] at h;by_cases e:k=j
  · exact ⟨(j,o2),List.mem_cons_self,e.symm⟩
  · rw [if_neg e] at h
    obtain ⟨p,h1,h2⟩:=mE h;exact ⟨p,List.mem_cons_of_mem _ h1,h2⟩
theorem AS.seto_h (s:AS):∀ (l:List (Nat×AObj)) (k:Nat),(s.seto l).h k=match r9 l k with|some ob=>some ob|none=>s.h k
 | [],k=>rfl
 | (j,ob)::r,k=>by
  simp only [AS.seto,AS.seth,r9];by_cases h:k=j
  · subst h;simp [aZ]
  · rw [bf _ _ _ _ h,if_neg h];exact AS.seto_h s r k
def DS.upd (e:DS) (s:AS):AS:=(s.seto e.wh).put e.d e.x
theorem DS.upd_t (e:DS) (s:AS) (t:Nat):(e.upd s).t t=if e.d=some t then e.x else s.t t:=by
 unfold DS.upd;have h0:(s.seto e.wh).t=s.t:=AS.seto_t s e.wh;cases hd:e.d with
 | none=>simp [AS.put,h0]
 | some d=>
  simp only [AS.put,h0];by_cases h:t=d
  · subst h;simp [aZ]
  · rw [bf _ _ _ _ h,if_neg (fun e=>h (by cases e;rfl))]
theorem DS.upd_h (e:DS) (s:AS) (k:Nat):(e.upd s).h k=match r9 e.wh k with|some ob=>some ob|none=>s.h k:=by
 unfold DS.upd;have h0:((s.seto e.wh).put e.d e.x).h=(s.seto e.wh).h:=by cases e.d<;>rfl
 rw [h0,AS.seto_h]
theorem AS.ext {s s':AS} (h1:∀ t,s.t t=s'.t t) (h2:∀ k,s.h k=s'.h k):s=s':=by
 cases s;cases s';simp only [AS.mk.injEq];exact ⟨funext h1,funext h2⟩
def DS.wf (e:DS):Bool:=e.wh.all fun p=>e.rh.contains p.1
def eA (a b:DS):Bool:=
 (match a.d with|some d=>!b.rt.contains d&&!(b.d == some d)|none=>true)&&(match b.d with|some d=>!a.rt.contains d|none=>true) &&
 (a.wh.all fun p=>!b.rh.contains p.1)&&(b.wh.all fun p=>!a.rh.contains p.1)
section
variable {P:Program} {n:Nat} {ops:Array Oper} {Q:bB}
def OpAt (P:Program) (n:Nat) (ops:Array Oper) (i:Nat) (s s':AS):Prop:=
 ∀ Λ w φ a,Sim n w φ Λ s a→∀ (K:Act→World→Prop) (QQ:Exit→Act→World→Prop),(∀ w' φ' a',Sim n w' φ' Λ s' a'→Goes w φ w' φ'→K a' w')→wpOp P ops QQ i K a w
theorem OpAt.go {i:Nat} {o:Oper} {s s':AS} (ho:ops[i]?=some o) (hg:o.guard=none) (h:OpOk P n o s s'):OpAt P n ops i s s':=by
 intro Λ w φ a hs K QQ hK;simp only [wpOp,ho,Region.wanted,hg,if_true];exact .inl (h Λ w φ a hs _ _ hK)
theorem OpAt.ggo {i:Nat} {o:Oper} {s s':AS} {j:Nat} {want:Bool} {oj:Oper} {d:Nat} (ho:ops[i]?=some o) (hg:o.guard=some (j,want)) (hj:ops[j]?=some oj)
 (hd:oj.dst=some d) (hb:s.t d=tf want) (h:OpOk P n o s s'):OpAt P n ops i s s':=by
 intro Λ w φ a hs K QQ hK;have hy:=hs.yielded hj hd hb;simp only [wpOp,ho,Region.wanted,hg,hy,beq_self_eq_true,if_true];exact .inl (h Λ w φ a hs _ _ hK)
theorem OpAt.gskip {i:Nat} {o:Oper} {s:AS} {j:Nat} {want b:Bool} {oj:Oper} {d:Nat} {dd:Option Tmp} (ho:ops[i]?=some o) (hg:o.guard=some (j,want)) (hj:ops[j]?=some oj)
 (hd:oj.dst=some d) (hb:s.t d=tf b) (hne:(b == want)=false) (hdd:o.dst=dd) (hn:dd.all (Nat.blt · n)=true):OpAt P n ops i s (s.put dd (.v undef)):=by
 intro Λ w φ a hs K QQ hK;have hy:=hs.yielded hj hd hb;have hw:(some b == some want)=false:=by simpa using hne
 simp only [wpOp,ho,Region.wanted,hg,hy,hw,Bool.false_eq_true,if_false];subst hdd;exact hK w φ _ (hs.put o.dst hn .v) (Goes.refl _ _)
def DS.Ok (P:Program) (n:Nat) (ops:Array Oper) (e:DS) (s:AS):Prop:=
 ∀ s',(∀ t∈e.rt,s'.t t=s.t t)→(∀ k∈e.rh,s'.h k=s.h k)→OpAt P n ops e.i s' (e.upd s')
theorem DS.Ok.congr {e:DS} {s s2:AS} (h:e.Ok P n ops s) (ht:∀ t∈e.rt,s2.t t=s.t t) (hh:∀ k∈e.rh,s2.h k=s.h k):e.Ok P n ops s2:=
 fun s' h1 h2=>h s' (fun t k=>(h1 t k).trans (ht t k)) (fun t k=>(h2 t k).trans (hh t k))
theorem eL {a b:DS} (h:eA a b=true):(∀ d,a.d=some d→d ∉ b.rt∧b.d≠some d)∧(∀ d,b.d=some d→d ∉ a.rt)∧(∀ p∈a.wh,p.1 ∉ b.rh)∧(∀ p∈b.wh,p.1 ∉ a.rh):=by
 unfold eA at h;simp only [Bool.and_eq_true,List.all_eq_true] at h;obtain ⟨⟨⟨h1,h2⟩,h3⟩,h4⟩:=h;refine ⟨fun d hd=>?_,fun d hd=>?_,fun p hp=>?_,fun p hp=>?_⟩
 · simp only [hd,Bool.and_eq_true,Bool.not_eq_true'] at h1
   exact ⟨by simpa using h1.1,by simpa using h1.2⟩
 · simpa [hd] using h2
 · simpa using h3 p hp
 · simpa using h4 p hp
theorem jn {a b:DS} (h:eA a b=true):eA b a=true:=by
 obtain ⟨h1,h2,h3,h4⟩:=eL h;unfold eA;simp only [Bool.and_eq_true];refine ⟨⟨⟨?_,?_⟩,?_⟩,?_⟩
 · cases hd:b.d with
   | none=>rfl
   | some d=>
    simp only [Bool.and_eq_true,Bool.not_eq_true'];refine ⟨by simpa using h2 d hd,?_⟩;cases hb:(a.d == some d) with
    | false=>rfl
    | true=>
     have:=(h1 d (by simpa using hb)).2;exact absurd hd this
 · cases hd:a.d with
   | none=>rfl
   | some d=>simpa using (h1 d hd).1
 · exact List.all_eq_true.2 fun p hp=>by simpa using h4 p hp
 · exact List.all_eq_true.2 fun p hp=>by simpa using h3 p hp
theorem jo {a b:DS} (h:eA a b=true) {k:Nat} (hk:k∈b.rh):r9 a.wh k=none:=by
 cases hw:r9 a.wh k with
 | none=>rfl
 | some ob=>
  obtain ⟨p,h1,h2⟩:=mE hw;exact absurd (h2▸hk) ((eL h).2.2.1 p h1)
theorem DS.Ok.over {a b:DS} {s:AS} (hi:eA a b=true) (h:b.Ok P n ops s):b.Ok P n ops (a.upd s):=by
 obtain ⟨h1,h2,h3,h4⟩:=eL hi;refine h.congr (fun t ht=>?_) (fun k hk=>?_)
 · rw [DS.upd_t,if_neg]
   intro e;exact (h1 t e).1 ht
 · rw [DS.upd_h,jo hi hk]
theorem DS.Ok.under {a b:DS} {s:AS} (hi:eA a b=true) (h:b.Ok P n ops (a.upd s)):b.Ok P n ops s:=by
 obtain ⟨h1,h2,h3,h4⟩:=eL hi;refine h.congr (fun t ht=>?_) (fun k hk=>?_)
 · rw [DS.upd_t,if_neg]
   intro e;exact (h1 t e).1 ht
 · rw [DS.upd_h,jo hi hk]
theorem tR {a b:DS} (hi:eA a b=true) (hb:b.wf=true) (s:AS):a.upd (b.upd s)=b.upd (a.upd s):=by
 obtain ⟨h1,h2,h3,h4⟩:=eL hi;refine AS.ext (fun t=>?_) (fun k=>?_)
 · simp only [DS.upd_t]
   by_cases e1:a.d=some t
   · have:=(h1 t e1).2
     rw [if_pos e1,if_neg this,if_pos e1]
   · rw [if_neg e1,if_neg e1]
 · simp only [DS.upd_h]
   cases hwa:r9 a.wh k with
   | none=>rfl
   | some oa=>
    cases hwb:r9 b.wh k with
    | none=>rfl
    | some q=>
     obtain ⟨p,e1,e2⟩:=mE hwa;obtain ⟨p2,e3,e4⟩:=mE hwb;have h5:=h3 p e1;have h6:=List.all_eq_true.1 hb p2 e3;simp only [List.contains_eq_mem,decide_eq_true_eq] at h6;exact absurd (e2▸e4▸h6) (e2▸h5)
def Good (P:Program) (n:Nat) (ops:Array Oper):List DS→AS→Prop
 | [],_=>True
 | e::r,s=>e.Ok P n ops s∧Good P n ops r (e.upd s)
def cS:List DS→AS→AS
 | [],s=>s
 | e::r,s=>cS r (e.upd s)
theorem Good.front {x:DS} {post:List DS}:∀ {pre:List DS} {s:AS},Good P n ops (pre++x::post) s→(∀ y∈pre,eA y x=true∧y.wf=true)→x.wf=true→
 Good P n ops (x::(pre++post)) s∧cS (pre++x::post) s=cS (x::(pre++post)) s
 | [],s,h,_,_=>⟨h,rfl⟩
 | y::pre,s,h,hi,hx=>by
  obtain ⟨h1,h2⟩:=h;obtain ⟨h3,h4⟩:=Good.front (pre:=pre) (s:=y.upd s) h2 (fun z hz=>hi z (List.mem_cons_of_mem _ hz)) hx;obtain ⟨h5,h6⟩:=h3;obtain ⟨hy,hyw⟩:=hi y List.mem_cons_self;have hc:=tR (jn hy) hyw s;refine ⟨⟨h5.under hy,?_⟩,?_⟩
  · show y.Ok P n ops (x.upd s)∧Good P n ops (pre++post) (y.upd (x.upd s))
    rw [← hc];exact ⟨h1.over (jn hy),h6⟩
  · show cS (pre++x::post) (y.upd s)=cS (pre++post) (y.upd (x.upd s))
    rw [h4,← hc];rfl
def dep (ops:Array Oper):Nat→Nat→Nat→Bool
 | 0,_,_=>false
 | fuel+1,b,a=>match ops[b]? with
  | none=>false
  | some o=>o.after.toList.any fun e=>Region.binds .any e&&(Nat.beq e.on a || dep ops fuel e.on a)
def FK (ops:Array Oper) (listed:Array Bool):Prop:=
 ∀ k o,ops[k]?=some o→listed.getD k true=true→∀ e∈o.after,Region.binds .any e=true→listed.getD e.on false=true
theorem mt {listed:Array Bool} (hd:FK ops listed) (hsz:listed.size=ops.size):∀ (fuel b a:Nat),dep ops fuel b a=true→(∀ o,ops[b]?=some o→∀ e∈o.after,Region.binds .any e=true→listed.getD e.on false=true)→
 listed.getD a false=true
 | 0,b,a,h,_=>by simp [dep] at h
 | fuel+1,b,a,h,hb=>by
  simp only [dep] at h;split at h
  · simp at h
  · rename_i o ho
    simp only [List.any_eq_true,Bool.and_eq_true,Bool.or_eq_true] at h;obtain ⟨e,he,h1,h2⟩:=h;have hl:=hb o ho e (by simpa using he) h1;rcases h2 with h2|h2
    · rw [Nat.eq_of_beq_eq_true h2] at hl
      exact hl
    · refine mt hd hsz fuel e.on a h2 fun o' ho' e' he' hb'=>hd e.on o' ho' ?_ e' he' hb'
      have hlt:e.on<ops.size:=(Array.getElem?_eq_some_iff.1 ho').1;rw [Array.getD_eq_getD_getElem?] at hl ⊢;rw [Array.getElem?_eq_getElem (by omega)] at hl ⊢;exact hl
def ep (ops:Array Oper) (es:List DS):Bool:=
 Nat.beq es.length ops.size&&(es.zipIdx.all fun p=>Nat.beq p.1.i p.2&&p.1.wf) &&
 ((List.range ops.size).all fun k=>match ops[k]? with|none=>true|some o=>o.after.toList.all fun e=>!Region.binds .any e || Nat.blt e.on k) &&
 ((List.range es.length).all fun b=>(List.range b).all fun a=>match es[a]?,es[b]? with|some x,some y=>eA x y || dep ops ops.size b a|_,_=>true)
theorem z0 {es:List DS} (hok:ep ops es=true) {QQ:Exit→Act→World→Prop} {Λ:aW}:∀ (rem:List DS) (listed:Array Bool) (s:AS) (a:Act) (w:World) (φ:aD),Sim n w φ Λ s a→
 listed.size=ops.size→FK ops listed→(∀ k,k<ops.size→listed.getD k true=false→∃ e∈rem,e.i=k)→(∀ e∈rem,listed.getD e.i true=false)→rem.Sublist es→
 Good P n ops rem s→(∀ w' φ' a',Sim n w' φ' Λ (cS rem s) a'→Goes w φ w' φ'→QQ .normal a' w')→wpAny P .any ops QQ rem.length listed a w:=by
 simp only [ep,Bool.and_eq_true] at hok;obtain ⟨⟨⟨hlen,hidx⟩,hedge⟩,hpair⟩:=hok;have hlen:=Nat.eq_of_beq_eq_true hlen;have hix:∀ (k:Nat) e,es[k]?=some e→e.i=k∧e.wf=true:=by
  intro k e hk;have hm:(e,k)∈es.zipIdx:=by
   rw [List.mem_iff_getElem?];exact ⟨k,by simp [hk]⟩
  have:=List.all_eq_true.1 hidx _ hm;simp only [Bool.and_eq_true] at this;exact ⟨Nat.eq_of_beq_eq_true this.1,this.2⟩
 have hed:∀ k o,ops[k]?=some o→∀ e∈o.after,Region.binds .any e=true→e.on<k:=by
  intro k o hk e he hb;have hlt:k<ops.size:=(Array.getElem?_eq_some_iff.1 hk).1;have:=List.all_eq_true.1 hedge k (List.mem_range.2 hlt);simp only [hk] at this;have h2:=List.all_eq_true.1 this e (by simpa using he);simp only [hb,Bool.not_true,Bool.false_or] at h2;exact Nat.blt_eq.mp h2
 have hmem:∀ x∈es,es[x.i]?=some x∧x.wf=true:=by
  intro x hx;obtain ⟨k,hk⟩:=List.mem_iff_getElem?.1 hx;obtain ⟨h1,h2⟩:=hix k x hk;rw [h1];exact ⟨hk,h2⟩
 have hpw:es.Pairwise (fun x y=>x.i<y.i):=by
  rw [List.pairwise_iff_getElem];intro a b ha hb hab;rw [(hix a es[a] (List.getElem?_eq_getElem ha)).1,(hix b es[b] (List.getElem?_eq_getElem hb)).1];exact hab
 have hind:∀ x∈es,∀ y∈es,x.i<y.i→eA x y=true∨dep ops ops.size y.i x.i=true:=by
  intro x hx y hy hlt;have hyl:y.i<es.length:=(List.getElem?_eq_some_iff.1 (hmem y hy).1).1;have h1:=List.all_eq_true.1 (List.all_eq_true.1 hpair y.i (List.mem_range.2 hyl)) x.i (List.mem_range.2 hlt);simp only [(hmem x hx).1,(hmem y hy).1,Bool.or_eq_true] at h1;exact h1
 have hflip:∀ (listed:Array Bool) (k:Nat),listed.size=ops.size→listed.getD k true=false→listed.getD k false=false:=by
  intro listed k _ h;rw [Array.getD_eq_getD_getElem?] at h ⊢;cases hk:listed[k]? with
  | none=>rw [hk] at h;simp at h
  | some b=>rw [hk] at h;simpa using h
 intro rem;generalize hr:rem.length=m;induction m generalizing rem with
 | zero=>
  intro listed s a w φ hs hsz hdown hall hun hsub hgood hQ;have hnil:rem=[]:=List.eq_nil_of_length_eq_zero hr;subst hnil;refine ⟨?_,hQ w φ a hs (Goes.refl _ _)⟩;rw [List.eq_nil_iff_forall_not_mem];intro j hj;obtain ⟨h1,o,ho,_⟩:=mem_ready.1 hj;obtain ⟨e,he,_⟩:=hall j (Array.getElem?_eq_some_iff.1 ho).1 h1;simp at he
 | succ m ih=>
  intro listed s a w φ hs hsz hdown hall hun hsub hgood hQ;have hpr:rem.Pairwise (fun x y=>x.i<y.i):=List.Pairwise.sublist hsub hpw;constructor
  · intro hnone
    exfalso;cases rem with
    | nil=>simp at hr
    | cons x0 r=>
     have hx0:=hsub.subset List.mem_cons_self;have hlt:x0.i<ops.size:=by rw [← hlen];exact (List.getElem?_eq_some_iff.1 (hmem x0 hx0).1).1
     have:x0.i∈Region.ready .any ops listed:=by
      rw [mem_ready];refine ⟨hun x0 List.mem_cons_self,ops[x0.i],Array.getElem?_eq_getElem hlt,fun e he hb=>?_⟩;have hlt2:=hed x0.i _ (Array.getElem?_eq_getElem hlt) e he hb;cases hl:listed.getD e.on true with
      | false=>
       obtain ⟨e',he',hi'⟩:=hall e.on (by omega) hl;rcases List.mem_cons.1 he' with rfl|he'
       · omega
       · have:=(List.pairwise_cons.1 hpr).1 e' he'
         omega
      | true=>
       rw [Array.getD_eq_getD_getElem?,Array.getElem?_eq_getElem (by omega)] at hl ⊢;exact hl
     rw [hnone] at this;simp at this
  · intro i hi
    obtain ⟨h1,o,ho,hpre⟩:=mem_ready.1 hi;have hilt:i<ops.size:=(Array.getElem?_eq_some_iff.1 ho).1;obtain ⟨x,hx,hxi⟩:=hall i hilt h1;subst hxi;obtain ⟨pre,post,rfl⟩:=List.append_of_mem hx;have hxe:=hsub.subset hx;have hpp:=(List.pairwise_append.1 hpr).2.2;have hin:∀ y∈pre,eA y x=true∧y.wf=true:=by
     intro y hy;have hym:y∈pre++x::post:=List.mem_append_left _ hy;have hye:=hsub.subset hym;refine ⟨?_,(hmem y hye).2⟩;rcases hind y hye x hxe (hpp y hy x List.mem_cons_self) with h|h
     · exact h
     · have h2:=mt hdown hsz _ _ _ h (fun o' ho' e he hb=>by
        rw [ho] at ho';cases ho';exact hpre e he hb)
       have h3:=hflip listed y.i hsz (hun y hym);rw [h3] at h2;cases h2
    obtain ⟨hg,hfin⟩:=Good.front hgood hin (hmem x hxe).2;have hstep:=hg.1 s (fun _ _=>rfl) (fun _ _=>rfl);refine hstep Λ w φ a hs _ QQ fun w' φ' a' hs' g=>?_
    have hlen2:(pre++post).length=m:=by simp at hr ⊢;omega
    have hne:∀ y∈pre++post,y.i≠x.i:=by
     intro y hy;rcases List.mem_append.1 hy with hy|hy
     · have:=hpp y hy x List.mem_cons_self
       omega
     · have:=(List.pairwise_cons.1 (List.pairwise_append.1 hpr).2.1).1 y hy
       omega
    refine ih (pre++post) hlen2 (listed.setIfInBounds x.i true) (x.upd s) a' w' φ' hs' (by simpa using hsz) ?_ ?_ ?_ ?_ hg.2 ?_
    · intro k o' ho' hk e he hb
      by_cases hkx:k=x.i
      · subst hkx
        rw [ho] at ho';cases ho';exact getD_set_true (hpre e he hb)
      · rw [getD_set_ne true (fun e=>hkx e.symm)] at hk
        exact getD_set_true (hdown k o' ho' hk e he hb)
    · intro k hk hk2
      by_cases hkx:k=x.i
      · subst hkx
        rw [Array.getD_eq_getD_getElem?,Array.getElem?_setIfInBounds_self_of_lt (by omega)] at hk2;simp at hk2
      · rw [getD_set_ne true (fun e=>hkx e.symm)] at hk2
        obtain ⟨e,he,hei⟩:=hall k hk hk2;refine ⟨e,?_,hei⟩;rcases List.mem_append.1 he with h|h
        · exact List.mem_append_left _ h
        · rcases List.mem_cons.1 h with rfl|h
          · exact absurd hei.symm hkx
          · exact List.mem_append_right _ h
    · intro e he
      rw [getD_set_ne true (fun h=>hne e he h.symm)];refine hun e ?_;rcases List.mem_append.1 he with h|h
      · exact List.mem_append_left _ h
      · exact List.mem_append_right _ (List.mem_cons_of_mem _ h)
    · refine List.Sublist.trans ?_ hsub
      exact List.Sublist.append (List.Sublist.refl _) (List.sublist_cons_self _ _)
    · intro w2 φ2 a2 hs2 g2
      refine hQ w2 φ2 a2 ?_ (g.trans g2);rw [hfin];exact hs2
theorem AWp.draw {id:Nat} {s:AS} (es:List DS) (hmix:P.follows .mixedOrders=true) (hok:ep ops es=true) (hgood:Good P n ops es s) (hQ:Q .normal (cS es s)) :
 AWp P n (.region id ops true) Q s:=by
 intro Λ w φ a hs QQ hQQ;refine wp_region_any hmix ?_;have hlen:es.length=ops.size:=by
  simp only [ep,Bool.and_eq_true] at hok;exact Nat.eq_of_beq_eq_true hok.1.1.1
 have hix:∀ (k:Nat) e,es[k]?=some e→e.i=k:=by
  intro k e hk;simp only [ep,Bool.and_eq_true] at hok;have hm:(e,k)∈es.zipIdx:=by
   rw [List.mem_iff_getElem?];exact ⟨k,by simp [hk]⟩
  have:=List.all_eq_true.1 hok.1.1.2 _ hm;simp only [Bool.and_eq_true] at this;exact Nat.eq_of_beq_eq_true this.1
 have:=z0 (P:=P) (n:=n) hok (QQ:=QQ) (Λ:=Λ) es (Array.replicate ops.size false) s a w.drew φ hs.drew (by simp) ?_ ?_ ?_ (List.Sublist.refl _) hgood
  (fun w' φ' a' hs' g=>hQQ .normal _ w' φ' a' hQ hs' ((gR w φ).trans g))
 · rw [hlen] at this
   exact this
 · intro k o ho hk
   have hlt:k<ops.size:=(Array.getElem?_eq_some_iff.1 ho).1;rw [Array.getD_eq_getD_getElem?,Array.getElem?_replicate,if_pos hlt] at hk;simp at hk
 · intro k hk _
   have hk':k<es.length:=by omega
   exact ⟨es[k],List.getElem_mem hk',hix k _ (List.getElem?_eq_getElem hk')⟩
 · intro e he
   obtain ⟨k,hk⟩:=List.mem_iff_getElem?.1 he;have hkl:k<ops.size:=by rw [← hlen];exact (List.getElem?_eq_some_iff.1 hk).1
   rw [hix k e hk,Array.getD_eq_getD_getElem?,Array.getElem?_replicate,if_pos hkl];rfl
end
def cl {α:Type} (f:α→List AV) (l:List α):List AV:=l.flatMap f
theorem c6 {α:Type} {f:α→List AV} {a:α} {l:List α}:cl f (a::l)=f a++cl f l:=rfl
theorem oh {α:Type} {f:α→List AV} {l m:List α}:cl f (l++m)=cl f l++cl f m:=by simp [cl]
theorem bJ {α:Type} {f:α→List AV} {e:Nat} (hf:∀ x,(f x).length=e):∀ l:List α,(cl f l).length=l.length*e
 | []=>by simp [cl]
 | a::l=>by
  rw [c6,List.length_append,hf,bJ hf l,List.length_cons,Nat.add_mul,Nat.one_mul,Nat.add_comm]
theorem nl {α:Type} {f:α→List AV} {e:Nat} (hf:∀ x,(f x).length=e):∀ (l:List α) (k:Nat),(cl f l).drop (k*e)=cl f (l.drop k)
 | [],k=>by simp [cl]
 | a::l,0=>by simp
 | a::l,k+1=>by
  rw [c6,List.drop_append,hf,List.drop_succ_cons,← nl hf l k,List.drop_of_length_le (by rw [hf,Nat.add_mul];omega),List.nil_append];congr 1;rw [Nat.add_mul];omega
theorem pH {α:Type} {f:α→List AV} {e:Nat} (hf:∀ x,(f x).length=e):∀ (l:List α) (k:Nat),(cl f l).take (k*e)=cl f (l.take k)
 | [],k=>by simp [cl]
 | a::l,0=>by simp [cl]
 | a::l,k+1=>by
  rw [c6,List.take_append,hf,List.take_succ_cons,c6,← pH hf l k,List.take_of_length_le (by rw [hf,Nat.add_mul];omega)];congr 2;rw [Nat.add_mul];omega
theorem gu {α:Type} {f:α→List AV} {l:List α} {p:AV→Prop} (h:∀ x∈l,∀ c∈f x,p c):∀ c∈cl f l,p c:=by
 intro c hc;obtain ⟨x,hx,hc⟩:=List.mem_flatMap.1 hc;exact h x hx c hc
def bc (b:UInt8):List AV:=[u8 b.toNat]
theorem kT (l:List UInt8):cl bc l=l.map fun b=>u8 b.toNat:=by
 induction l with
 | nil=>rfl
 | cons a l ih=>rw [c6,ih];rfl
theorem j6 (l:List UInt8):(cl bc l).length=l.length:=by simp [kT]
theorem DL (l:List UInt8):∀ c∈cl bc l,c.ok 0=true:=by
 intro c hc;rw [kT] at hc;obtain ⟨b,_,rfl⟩:=List.mem_map.1 hc;rfl
theorem F8 (lv:Nat) (l:List UInt8):∀ c∈cl bc l,c.ok lv=true:=fun c hc=>AV.ok_mono (Nat.zero_le _) (DL l c hc)
section rules
variable {P:Program} {n:Nat} {Q:bB} {s:AS} {te:TE} {o:Oper} {d:Option Tmp}
def AExit.noGoto (Q:bB):bB
 | .goto _,_=>False
 | e,s=>Q e s
theorem AWp.scope {c:Code} (h:AWp P n c (AExit.noGoto Q) s):AWp P n (.scope c) Q s:=by
 intro Λ w φ a hs QQ hQ;refine wp_scope_straight (h Λ w φ a hs _ ?_);intro ae s' w' φ' a' q hs' g;cases ae with
 | goto l=>exact q.elim
 | normal=>exact hQ .normal s' w' φ' a' q hs' g
 | exit id=>exact hQ (.exit id) s' w' φ' a' q hs' g
 | ret=>exact hQ .ret s' w' φ' a' q hs' g
 | panic x=>exact hQ (.panic x) s' w' φ' a' q hs' g
theorem HSim.ver {w:World} {φ:aD} {Λ:aW} {h:aX} (hs:HSim w φ Λ h) {id ver:Nat} {ob:AObj} {cells:List AV} (ho:h id=some ob) (hc:ob.at ver=some cells) :
 ∃ l,φ id=some l∧l.ver=ver:=by
 obtain ⟨l,hl,hor⟩:=hs.heap id ob ho;cases ob with
 | gbox ty c=>
  simp only [AObj.at] at hc;cases hb:Nat.beq ver 0 with
  | false=>rw [hb] at hc;cases hc
  | true=>
   obtain ⟨b,arr,T,h1,h2,h3,h4,h5⟩:=hor;exact ⟨l,hl,by rw [h2,Nat.eq_of_beq_eq_true hb]⟩
 | grow ty c e v=>
  simp only [AObj.at] at hc;cases hb:Nat.beq ver v with
  | false=>rw [hb] at hc;cases hc
  | true=>
   obtain ⟨h1,h2⟩:=hor;exact ⟨l,hl,by rw [h1,Nat.eq_of_beq_eq_true hb]⟩
 | map es=>simp [AObj.at] at hc
theorem nT (hte:TEok P te) {t e:TypeId} {x y:Operand} {id ver po len:Nat} {k:IntKind} {i:Int} {ob:AObj} {cells:List AV} {ti tj:TI} (ho:o.op=.indexAddr t x y)
 (hx:s.ev x=.ptr id ver po) (hy:s.ev y=.v (.int k i)) (ht:te.get t=some ti) (hk:ti.k=.arr len e) (he:te.get e=some tj) (h0:0≤i) (h1:i<len) (hob:s.h id=some ob) (hc:ob.at ver=some cells)
 (hdd:o.dst=d) (hd:d.all (Nat.blt · n)=true):OpOk P n o s (s.put d (.ptr id ver (po+i.toNat*tj.size))):=
 .val hdd hd fun Λ w φ a hs=>by
  have hu:=(hte.tells ht).arr hk;obtain ⟨l,hl,hv⟩:=hs.hs.ver hob hc;have hr:=hs.ev x;rw [hx] at hr;generalize hxv:a.eval x=xv at hr;cases hr with
  | ptrx g1 g2=>rw [hl] at g1;cases g1;omega
  | ptr g1 g2 g3=>
   rename_i l' b oo
   refine ⟨.pointer (some ⟨b,oo+(po+i.toNat*tj.size),none⟩),?_,.ptr g1 g2 g3⟩;simp [execOp,ho,hxv,cc hs hy,Instr.indexAt,asIntOf,run_underlying hu,Instr.sureAddr,h0,h1,(hte.tells he).run_sizeOf,Addr.add_lit,Nat.add_assoc]
theorem jG (hte:TEok P te) {t e:TypeId} {x y:Operand} {id ver off len esz:Nat} {k:IntKind} {i:Int} {ob:AObj} {cells:List AV} {ti tj:TI} (ho:o.op=.indexAddr t x y)
 (hx:s.ev x=.sl id ver off len esz) (hy:s.ev y=.v (.int k i)) (ht:te.get t=some ti) (hk:ti.k=.slice e) (he:te.get e=some tj) (h0:0≤i) (h1:i<len) (hob:s.h id=some ob) (hc:ob.at ver=some cells)
 (hdd:o.dst=d) (hd:d.all (Nat.blt · n)=true):OpOk P n o s (s.put d (.ptr id ver (off+i.toNat*tj.size))):=
 .val hdd hd fun Λ w φ a hs=>by
  have hu:=(hte.tells ht).slice hk;obtain ⟨l,hl,hv⟩:=hs.hs.ver hob hc;have hr:=hs.ev x;rw [hx] at hr;generalize hxv:a.eval x=xv at hr;cases hr with
  | slx g1 g2 g3=>rw [hl] at g1;cases g1;omega
  | sl0 g1 g2=>omega
  | sl g1 g2 g3 g4 g5 g6=>
   rename_i l' b oo cap arr T m
   refine ⟨.pointer (some ⟨b,oo+(off+i.toNat*tj.size),none⟩),?_,.ptr g1 g2 g3⟩;simp [execOp,ho,hxv,cc hs hy,Instr.indexAt,asIntOf,run_underlying hu,h0,h1,(hte.tells he).run_sizeOf,Addr.add_lit,Nat.add_assoc]
theorem uk (hte:TEok P te) {t e:TypeId} {x:Operand} {lo hi:Option Operand} {id ver off len esz:Nat} {p q:Nat} {ob:AObj} {cells:List AV} {ti tj:TI} (ho:o.op=.slice t x lo hi none)
 (hx:s.ev x=.sl id ver off len esz) (ht:te.get t=some ti) (hk:ti.k=.slice e) (he:te.get e=some tj) (hes:tj.size=esz) (hh:Bnd s hi len q) (hl:Bnd s lo 0 p) (h1:p≤q) (h2:q≤len)
 (hob:s.h id=some ob) (hc:ob.at ver=some cells) (hdd:o.dst=d) (hd:d.all (Nat.blt · n)=true):OpOk P n o s (s.put d (.sl id ver (off+p*esz) (q-p) esz)):=
 .val hdd hd fun Λ w φ a hs=>by
  subst hes;have hu:=(hte.tells ht).slice hk;obtain ⟨l,hloc,hv⟩:=hs.hs.ver hob hc;have hr:=hs.ev x;rw [hx] at hr;generalize hxv:a.eval x=xv at hr;have hb:∀ cap,len≤cap→(Instr.sliceBounds true len cap (lo.map a.eval) (hi.map a.eval) none).run P w=.ok (p,q,cap) w:=fun cap hcap=>by
   have:=cZ (P:=P) hs (sl:=true) (len:=len) (cap:=cap) (mx:=none) (m:=cap) rfl hh hl (by simp) h1 (by omega) (Nat.le_refl _)
   simpa using this
  cases hr with
  | slx g1 g2 g3=>rw [hloc] at g1;cases g1;omega
  | @sl0 _ _ _ _ _ ad g1 g2=>
   have hq:q=0:=by omega
   have hp:p=0:=by omega
   subst hq;subst hp;refine ⟨.slice ad 0 0,?_,.sl0 g1 g2⟩;have:=hb 0 (Nat.le_refl _);simp [execOp,ho,hxv,Instr.sliceAt,Instr.slice,run_underlying hu,this,(hte.tells he).run_sizeOf]
  | @sl _ _ _ _ _ _ b oo cap arr T m g1 g2 g3 g4 g5 g6=>
   have:=hb cap g6;by_cases hcp:cap=p
   · have hq:q=p:=by omega
     subst hcp;subst hq;refine ⟨.slice (some ⟨b,oo+off,none⟩) 0 0,?_,?_⟩
     · simp [execOp,ho,hxv,Instr.sliceAt,Instr.slice,run_underlying hu,this,(hte.tells he).run_sizeOf]
     · rw [Nat.sub_self]
       exact .sl0 g1 g2
   · refine ⟨.slice (some ⟨b,oo+(off+p*tj.size),none⟩) (q-p) (cap-p),?_,.sl g1 g2 g3 g4 ?_ (by omega)⟩
     · simp [execOp,ho,hxv,Instr.sliceAt,Instr.slice,run_underlying hu,this,(hte.tells he).run_sizeOf,hcp,Addr.add_lit,Nat.add_assoc]
     · have:p*tj.size+(cap-p)*tj.size=cap*tj.size:=by rw [← Nat.add_mul];congr 1;omega
       omega
theorem sQ (hte:TEok P te) {t e:TypeId} {x:Operand} {lo hi:Option Operand} {id ver po len p q:Nat} {ob:AObj} {cells:List AV} {ti tj:TI} (ho:o.op=.slice t x lo hi none)
 (hx:s.ev x=.ptr id ver po) (ht:te.get t=some ti) (hk:ti.k=.arr len e) (he:te.get e=some tj) (hh:Bnd s hi len q) (hl:Bnd s lo 0 p) (h1:p≤q) (h2:q≤len) (h3:p<len)
 (hob:s.h id=some ob) (hc:ob.at ver=some cells) (hsz:po+len*tj.size≤cells.length) (hp:0<cells.length) (hdd:o.dst=d) (hd:d.all (Nat.blt · n)=true) :
 OpOk P n o s (s.put d (.sl id ver (po+p*tj.size) (q-p) tj.size)):=
 .val hdd hd fun Λ w φ a hs=>by
  have hu:=(hte.tells ht).arr hk;have hr:=hs.ev x;rw [hx] at hr;generalize hxv:a.eval x=xv at hr;have hb:=cZ (P:=P) hs (sl:=false) (len:=len) (cap:=len) (mx:=none) (m:=len) rfl hh hl (by simp) h1 h2 (Nat.le_refl _);simp only [Option.map_none] at hb;obtain ⟨l,hloc,hv⟩:=hs.hs.ver hob hc;obtain ⟨l0,b0,oo0,arr,T,lo',hi',g1,g2,g3,g4,g5,g6,g7⟩:=hs.hs.at hob hc hp;cases hr with
  | ptrx e1 e2=>rw [hloc] at e1;cases e1;omega
  | ptr e1 e2 e3=>
   rw [g1] at e1;cases e1;rw [g3] at e3;cases e3;have hne:¬ (len=p):=by omega
   refine ⟨.slice (some ⟨b0,oo0+(po+p*tj.size),none⟩) (q-p) (len-p),?_,.sl g1 g2 g3 g4 ?_ (by omega)⟩
   · simp [execOp,ho,hxv,Instr.sliceAt,run_underlying hu,Instr.sureAddr,hb,(hte.tells he).run_sizeOf,hne,Addr.add_lit,Nat.add_assoc]
   · have:p*tj.size+(len-p)*tj.size=len*tj.size:=by rw [← Nat.add_mul];congr 1;omega
     omega
theorem ye (hte:TEok P te) {t e:TypeId} {x:Operand} {id ver off len esz m:Nat} {ob:AObj} {cells:List AV} {ti:TI} (ho:o.op=.sliceToArrayPointer t x) (hx:s.ev x=.sl id ver off len esz)
 (ht:te.get t=some ti) (hk:ti.k=.arr m e) (hm:m≤len) (hm0:0<m) (hob:s.h id=some ob) (hc:ob.at ver=some cells) (hdd:o.dst=d) (hd:d.all (Nat.blt · n)=true):OpOk P n o s (s.put d (.ptr id ver off)):=
 .val hdd hd fun Λ w φ a hs=>by
  have hu:=(hte.tells ht).arr hk;obtain ⟨l,hloc,hv⟩:=hs.hs.ver hob hc;have hr:=hs.ev x;rw [hx] at hr;generalize hxv:a.eval x=xv at hr;cases hr with
  | slx g1 g2 g3=>rw [hloc] at g1;cases g1;omega
  | sl0 g1 g2=>omega
  | @sl _ _ _ _ _ _ b oo cap arr T mm g1 g2 g3 g4 g5 g6=>
   refine ⟨.pointer (some ⟨b,oo+off,none⟩),?_,.ptr g1 g2 g3⟩;have:¬ (len<m):=by omega
   simp [execOp,ho,hxv,Instr.arrayAt,run_underlying hu,this]
theorem mI (l:List UInt8):strOfNums (l.map fun b=>(b.toNat:Int))=⟨⟨l⟩⟩:=by
 unfold strOfNums;congr 1
 apply Array.ext'
 simp only [List.map_map];have:(fun n:Int=>UInt8.ofNat n.toNat) ∘ (fun b:UInt8=>(b.toNat:Int))=id:=by
  funext b
  simp
 rw [this];simp
theorem lX (hte:TEok P te) {t u e:TypeId} {x:Operand} {y:AV} {l:List UInt8} {ti tj tk:TI} (ho:o.op=.convert t u x) (hx:s.ev x=y)
 (hy:(y=.v (.slice none 0 0)∧l=[])∨(∃ lv,y=.fz lv l.length (cl bc l))∨(∃ id ver off ob cells,y=.sl id ver off l.length 1∧s.h id=some ob∧ob.at ver=some cells∧(cells.drop off).take l.length=cl bc l))
 (ht:te.get t=some ti) (hk:ti.k=.slice e) (he:te.get e=some tj) (hk2:tj.k=.int .u8) (hu:te.get u=some tk) (hk3:tk.k=.str) (hdd:o.dst=d) (hd:d.all (Nat.blt · n)=true) :
 OpOk P n o s (s.put d (str l)):=
 .val hdd hd fun Λ w φ a hs=>by
  have h1:=(hte.tells ht).slice hk;have h2:=(hte.tells he).int hk2;have h3:=(hte.tells hu).str hk3;have hr:=hs.ev x;rw [hx] at hr;refine ⟨.string ⟨⟨l⟩⟩,?_,.v⟩
  suffices h:(convert t u (a.eval x)).run P w=.ok (.string ⟨⟨l⟩⟩) w by simp [execOp,ho,h]
  have hz:∀ ad cap,l=[]→(convert t u (.slice ad 0 cap)).run P w=.ok (.string ⟨⟨l⟩⟩) w:=by
   intro ad cap hl;subst hl;cases ad with
   | none=>exact run_convert_bytes_nil w t e h1 h2 0 cap u h3
   | some ad=>rw [run_convert_bytes_string w t u e _ 0 cap h1 h2 h3];simp [Conv.bytesToString,loadCells,loadCellsFrom];rfl
  generalize hxv:a.eval x=xv at hr;rcases hy with ⟨rfl,hl⟩|⟨lv,rfl⟩|⟨id,ver,off,ob,cells,rfl,hob,hat,hcs⟩
  · cases hr
    exact hz _ _ hl
  · generalize hm:l.length=m at hr
    generalize hbl:cl bc l=bcl at hr;cases hr with
    | fz0=>exact hz _ _ (List.eq_nil_of_length_eq_zero hm)
    | @fz _ _ _ b oo cap vf hm' hn hok hc hr hp=>
     subst hm;subst hbl;have:=run_convert_bytes_arg (P:=P) w t e h1 h2 b oo l.length cap (l.map fun b=>(b.toNat:Int)) (by simp) (fun i hi=>by
      rw [hc i (by rw [j6];simpa using hi)];have:=hr i (u8 l[i].toNat) (by simp [kT,hi]);generalize vf i=q at this;cases this;simp [hi]) u h3
     rw [mI] at this;exact this
  · generalize hm:l.length=m at hr
    cases hr with
    | sl0=>exact hz _ _ (List.eq_nil_of_length_eq_zero hm)
    | slx g1 g2 g3=>
     obtain ⟨l0,q1,q2⟩:=hs.hs.ver hob hat;rw [q1] at g1;cases g1;omega
    | @sl _ _ _ _ _ _ b oo cap arr T mm g1 g2 g3 g4 g5 g6=>
     subst hm;by_cases hl0:l=[]
     · subst hl0
       exact hz _ _ rfl
     · have hlp:0<l.length:=List.length_pos_iff.2 hl0
       have hclen:((cells.drop off).take l.length).length=l.length:=by rw [hcs,j6]
       simp only [List.length_take,List.length_drop] at hclen;obtain ⟨l0,b0,oo0,arr0,T0,lo,hi,k1,k2,k3,k4,k5,k6,k7⟩:=hs.hs.at hob hat (by omega);rw [k1] at g1;cases g1;rw [k3] at g3;cases g3;rw [k4] at g4;cases g4;have:=run_convert_bytes_arg (P:=P) w t e h1 h2 b (oo+off) l.length cap (l.map fun b=>(b.toNat:Int)) (by simp) (fun i hi=>by
        have hci:((cells.drop off).take l.length)[i]?=some (u8 l[i].toNat):=by rw [hcs];simp [kT,hi]
        rw [List.getElem?_take,if_pos hi,List.getElem?_drop] at hci;obtain ⟨z,z1,z2⟩:=k7 _ _ hci;cases z2;rw [← Nat.add_assoc] at z1;simp [World.cell?,k4,z1,hi]) u h3
       rw [mI] at this;exact this
end rules
def eo (place:Nat→Option (Nat×Nat)) (cells:List AV):List (Nat×AV)→Option (List AV)
 | []=>some cells
 | (i,x)::rest=>
  match place i with
  | none=>none
  | some (off,size)=>
   match x.flat with
   | none=>none
   | some cs=>bif Nat.beq cs.length size&&Nat.ble (off+size) cells.length then eo place (cells.take off++cs++cells.drop (off+size)) rest else none
theorem m5 {place:Nat→Option (Nat×Nat)}:∀ {parts:List (Nat×AV)} {cells cs:List AV},eo place cells parts=some cs→cs.length=cells.length
 | [],cells,cs,h=>by
  simp only [eo,Option.some.injEq] at h;rw [h]
 | (i,x)::rest,cells,cs,h=>by
  simp only [eo] at h;split at h
  · cases h
  · split at h
    · cases h
    · rename_i off size _ _ c _
      cases hb:(Nat.beq c.length size&&Nat.ble (off+size) cells.length) with
      | false=>rw [hb] at h;cases h
      | true=>
       rw [hb] at h;simp only [cond_true] at h;simp only [Bool.and_eq_true] at hb;have e1:=Nat.eq_of_beq_eq_true hb.1;have e2:=Nat.le_of_ble_eq_true hb.2;rw [m5 h];simp;omega
theorem s6 (off:Nat):∀ (l:List Value) (m:Nat) (cells:Array Value),off+m+l.length≤cells.size→∀ k,((l.zipIdx m).foldl (fun cs p=>cs.setIfInBounds (off+p.2) p.1) cells)[k]? =
 if off+m≤k∧k<off+m+l.length then l[k-(off+m)]? else cells[k]?
 | [],m,cells,_,k=>by
  simp only [List.zipIdx_nil,List.foldl_nil,List.length_nil];rw [if_neg (by omega)]
 | v::l,m,cells,h,k=>by
  simp only [List.length_cons] at h;simp only [List.zipIdx_cons,List.foldl_cons];rw [s6 off l (m+1) _ (by simp;omega) k];simp only [List.length_cons];by_cases h1:k=off+m
  · subst h1
    rw [if_neg (by omega),if_pos (by omega),Array.getElem?_setIfInBounds_self_of_lt (by omega)];simp
  · by_cases h2:off+(m+1)≤k∧k<off+(m+1)+l.length
    · rw [if_pos h2,if_pos (by omega)]
      rw [show k-(off+m)=(k-(off+(m+1)))+1 by omega,List.getElem?_cons_succ]
    · rw [if_neg h2,if_neg (by omega),Array.getElem?_setIfInBounds_ne (by omega)]
theorem ko (off:Nat):∀ (l:List Value) (m:Nat) (cells:Array Value),((l.zipIdx m).foldl (fun cs p=>cs.setIfInBounds (off+p.2) p.1) cells).size=cells.size
 | [],m,cells=>rfl
 | v::l,m,cells=>by
  simp only [List.zipIdx_cons,List.foldl_cons];rw [ko off l (m+1)];simp
def lH (w:World) (φ:aD) (Λ:aW) (arr:Array Value) (cells:List AV):Prop:=arr.size=cells.length∧CellsRep w φ Λ arr 0 cells
theorem ne {w:World} {φ:aD} {Λ:aW} {place:Nat→Option (Nat×Nat)}:∀ {parts:List (Nat×AV)} {vparts:List (Nat×Value)} {arr:Array Value} {cells cs':List AV},lH w φ Λ arr cells→
 vparts.length=parts.length→(∀ (j:Nat) p,parts[j]?=some p→∃ q,vparts[j]?=some q∧q.1=p.1∧Rep w φ Λ p.2 q.2)→eo place cells parts=some cs'→
 ∃ arr',Instr.fill place arr vparts=some arr'∧lH w φ Λ arr' cs'
 | [],vparts,arr,cells,cs',h1,h2,h3,h4=>by
  simp only [eo,Option.some.injEq] at h4;subst h4;have:vparts=[]:=List.eq_nil_of_length_eq_zero (by simpa using h2);subst this;exact ⟨arr,rfl,h1⟩
 | (i,x)::rest,[],arr,cells,cs',h1,h2,h3,h4=>by simp at h2
 | (i,x)::rest,(i',v)::vrest,arr,cells,cs',h1,h2,h3,h4=>by
  obtain ⟨q,hq1,hq2,hq3⟩:=h3 0 (i,x) rfl;simp only [List.getElem?_cons_zero,Option.some.injEq] at hq1;subst hq1;simp only at hq2 hq3;subst hq2;simp only [eo] at h4;cases hp:place i' with
  | none=>rw [hp] at h4;cases h4
  | some p=>
   obtain ⟨off,size⟩:=p;simp only [hp] at h4;cases hf:x.flat with
   | none=>rw [hf] at h4;cases h4
   | some cs=>
    simp only [hf] at h4;cases hb:(Nat.beq cs.length size&&Nat.ble (off+size) cells.length) with
    | false=>rw [hb] at h4;cases h4
    | true=>
     rw [hb] at h4;simp only [cond_true] at h4;simp only [Bool.and_eq_true] at hb;have e1:=Nat.eq_of_beq_eq_true hb.1;have e2:=Nat.le_of_ble_eq_true hb.2;obtain ⟨f1,f2⟩:=hq3.flat hf;have hcond:¬ (v.cells.size≠size∨off+v.cells.size > arr.size):=by
      rw [h1.1,f1,e1];omega
     have hcond2:(v.cells.size≠size || off+v.cells.size > arr.size)=false:=by
      simp only [Bool.or_eq_false_iff,decide_eq_false_iff_not];exact ⟨fun h=>hcond (.inl h),fun h=>hcond (.inr h)⟩
     have hstep:Instr.fill place arr ((i',v)::vrest)=Instr.fill place (v.cells.zipIdx.foldl (fun cs (c,j)=>cs.setIfInBounds (off+j) c) arr) vrest:=by
      simp only [Instr.fill,hp];rw [if_neg (by simpa using hcond2)]
     have hfold:v.cells.zipIdx.foldl (fun cs (c,j)=>cs.setIfInBounds (off+j) c) arr=(v.cells.toList.zipIdx 0).foldl (fun cs p=>cs.setIfInBounds (off+p.2) p.1) arr:=by
      rw [← Array.foldl_toList,Array.toList_zipIdx]
     rw [hstep,hfold];refine ne (parts:=rest) (vparts:=vrest) (place:=place) ?_ (by simpa using h2) (fun j p hj=>h3 (j+1) p (by simpa using hj)) h4;refine ⟨by rw [ko,h1.1];simp;omega,fun j c hj=>?_⟩;have hsz:=h1.1;rw [Nat.zero_add,s6 off _ 0 arr (by simp;omega)];by_cases hj1:j<off
     · rw [List.append_assoc,List.getElem?_append_left (by simp;omega),List.getElem?_take,if_pos hj1] at hj
       obtain ⟨y,y1,y2⟩:=h1.2 j c hj;rw [if_neg (by omega)];rw [Nat.zero_add] at y1;exact ⟨y,y1,y2⟩
     · by_cases hj2:j<off+cs.length
       · rw [List.append_assoc,List.getElem?_append_right (by simp;omega),List.getElem?_append_left (by simp;omega)] at hj
         simp only [List.length_take] at hj;rw [Nat.min_eq_left (by omega)] at hj;obtain ⟨y,y1,y2⟩:=f2 _ c hj;rw [if_pos (by simp;omega)];simp only [Nat.add_zero,Array.getElem?_toList];exact ⟨y,y1,y2⟩
       · rw [List.getElem?_append_right (by simp;omega),List.getElem?_drop] at hj
         simp only [List.length_append,List.length_take] at hj;rw [Nat.min_eq_left (by omega),show off+size+(j-(off+cs.length))=j by omega] at hj;obtain ⟨y,y1,y2⟩:=h1.2 j c hj;rw [if_neg (by simp;omega)];rw [Nat.zero_add] at y1;exact ⟨y,y1,y2⟩
section rules
variable {P:Program} {n:Nat} {Q:bB} {s:AS} {te:TE} {o:Oper} {d:Option Tmp}
def dv (te:TE) (l:List (Nat×TypeId)):Nat→Option (Nat×Nat):=fun i=>
 match l[i]? with
 | none=>none
 | some (off,ft)=>match te.get ft with
  | none=>none
  | some j=>some (off,j.size)
def j7 (size:Nat):Nat→Option (Nat×Nat):=fun i=>some (i*size,size)
theorem rz {w:World} {φ:aD} {Λ:aW} (zs:List ZC):lH w φ Λ (zs.map ZC.val).toArray (zs.map fun z=>AV.v z.val):=by
 refine ⟨by simp,fun j c hj=>?_⟩;rw [List.getElem?_map,Option.map_eq_some_iff] at hj;obtain ⟨z,h1,rfl⟩:=hj;exact ⟨z.val,by simp [h1],.v⟩
theorem nQ {w:World} {φ:aD} {Λ:aW} {a:Act} (hs:Sim n w φ Λ s a) (parts:Array (Nat×Operand)) :
 (parts.map fun (i,x)=>(i,a.eval x)).toList.length=(parts.toList.map fun p=>(p.1,s.ev p.2)).length∧
 ∀ (j:Nat) p,(parts.toList.map fun p=>(p.1,s.ev p.2))[j]?=some p→∃ q,(parts.map fun (i,x)=>(i,a.eval x)).toList[j]?=some q∧q.1=p.1∧Rep w φ Λ p.2 q.2:=by
 refine ⟨by simp,fun j p hj=>?_⟩;rw [List.getElem?_map,Option.map_eq_some_iff] at hj;obtain ⟨r,h1,rfl⟩:=hj;refine ⟨(r.1,a.eval r.2),?_,rfl,hs.ev r.2⟩;rw [Array.toList_map,List.getElem?_map,h1];rfl
theorem vL {fs:Array Field} {l:List (Nat×TypeId)} (hte:TEok P te) (hl:fs.toList.map (fun f=>(f.offset,f.type))=l) (hk:(l.all fun p=>(te.get p.2).isSome)=true) (w:World) :
 ∃ ps:Array (Nat×Nat),(fs.mapM fun f=>do pure (f.offset,← sizeOf f.type):Sem (Array (Nat×Nat))).run P w=.ok ps w∧(fun i=>ps[i]?)=dv te l:=by
 have key:∀ (L:List Field),(∀ f∈L,(te.get f.type).isSome=true)→∃ ps:List (Nat×Nat),(L.mapM fun f=>do pure (f.offset,← sizeOf f.type):Sem (List (Nat×Nat))).run P w=.ok ps w∧
  ∀ i:Nat,ps[i]?=dv te (L.map fun f=>(f.offset,f.type)) i:=by
  intro L;induction L with
  | nil=>intro _;exact ⟨[],by simp,fun i=>by simp [dv]⟩
  | cons f L ih=>
   intro h;obtain ⟨ps,h1,h2⟩:=ih fun g hg=>h g (List.mem_cons_of_mem _ hg)
   have hf:=h f List.mem_cons_self;obtain ⟨j,hj⟩:=Option.isSome_iff_exists.1 hf;refine ⟨(f.offset,j.size)::ps,?_,fun i=>?_⟩
   · rw [List.mapM_cons]
     simp only [Sem.run_bind,(hte.tells hj).run_sizeOf,Result.andThen_ok,Sem.run_pure,h1]
   · cases i with
     | zero=>simp [dv,hj]
     | succ i=>
      have:=h2 i;simp only [List.getElem?_cons_succ,dv,List.map_cons] at this ⊢;exact this
 obtain ⟨ps,h1,h2⟩:=key fs.toList (fun f hf=>by
  have hm:(f.offset,f.type)∈l:=by rw [← hl];exact List.mem_map_of_mem hf
  exact List.all_eq_true.1 hk _ hm)
 refine ⟨ps.toArray,?_,?_⟩
 · rw [← Array.toArray_toList (xs:=fs),List.mapM_toArray]
   simp only [Sem.run_map,h1,Result.andThen_ok]
 · funext i
   rw [← hl]
   simpa using h2 i
theorem p7 (hte:TEok P te) {t:TypeId} {parts:Array (Nat×Operand)} {l:List (Nat×TypeId)} {ti:TI} {cs:List AV} (ho:o.op=.build t parts) (ht:te.get t=some ti) (hk:ti.k=.struct l)
 (hall:(l.all fun p=>(te.get p.2).isSome)=true) (hcs:eo (dv te l) (ti.zero.map fun z=>AV.v z.val) (parts.toList.map fun p=>(p.1,s.ev p.2))=some cs)
 (hdd:o.dst=d) (hd:d.all (Nat.blt · n)=true):OpOk P n o s (s.put d (.agg cs)):=
 .val hdd hd fun Λ w φ a hs=>by
  obtain ⟨z,z1,z2,_⟩:=(hte.tells ht).run_zero w;obtain ⟨fs,f1,f2⟩:=(hte.tells ht).struct hk;obtain ⟨ps,p1,p2⟩:=vL hte f2 hall w;obtain ⟨q1,q2⟩:=nQ hs parts;obtain ⟨arr',r1,r2,r3⟩:=ne (rz ti.zero) q1 q2 hcs;rw [← z2,← p2] at r1;refine ⟨.agg arr',?_,.agg (fun j=>arr'.getD j undef) r2 (fun j hj=>?_) (fun j c hj=>?_)⟩
  · have h:(Instr.build t (parts.map fun (i,x)=>(i,a.eval x))).run P w=.ok (.agg arr') w:=by
     simp only [Instr.build,Sem.run_bind,z1,Result.andThen_ok,run_underlying f1,p1,r1,Sem.run_pure]
    simp [execOp,ho,h]
  · have:j<arr'.size:=by omega
    simp [Array.getD,this]
  · obtain ⟨y,y1,y2⟩:=r3 j c hj
    rw [Nat.zero_add] at y1;rw [Array.getD_eq_getD_getElem?,y1];exact y2
theorem sT (hte:TEok P te) {t e:TypeId} {m:Nat} {parts:Array (Nat×Operand)} {ti tj:TI} {cs:List AV} (ho:o.op=.build t parts) (ht:te.get t=some ti) (hk:ti.k=.arr m e) (he:te.get e=some tj)
 (hcs:eo (j7 tj.size) (ti.zero.map fun z=>AV.v z.val) (parts.toList.map fun p=>(p.1,s.ev p.2))=some cs)
 (hdd:o.dst=d) (hd:d.all (Nat.blt · n)=true):OpOk P n o s (s.put d (.agg cs)):=
 .val hdd hd fun Λ w φ a hs=>by
  obtain ⟨z,z1,z2,_⟩:=(hte.tells ht).run_zero w;have f1:=(hte.tells ht).arr hk;obtain ⟨q1,q2⟩:=nQ hs parts;obtain ⟨arr',r1,r2,r3⟩:=ne (rz ti.zero) q1 q2 hcs;rw [← z2] at r1;refine ⟨.agg arr',?_,.agg (fun j=>arr'.getD j undef) r2 (fun j hj=>?_) (fun j c hj=>?_)⟩
  · have h:(Instr.build t (parts.map fun (i,x)=>(i,a.eval x))).run P w=.ok (.agg arr') w:=by
     have r1':Instr.fill (fun i=>some (i*tj.size,tj.size)) z.cells (parts.map fun (i,x)=>(i,a.eval x)).toList=some arr':=r1;simp only [Instr.build,Sem.run_bind,z1,Result.andThen_ok,run_underlying f1,(hte.tells he).run_sizeOf,r1',Sem.run_pure]
    simp [execOp,ho,h]
  · have:j<arr'.size:=by omega
    simp [Array.getD,this]
  · obtain ⟨y,y1,y2⟩:=r3 j c hj
    rw [Nat.zero_add] at y1;rw [Array.getD_eq_getD_getElem?,y1];exact y2
def jc (zs:List ZC):Nat→List AV
 | 0=>[]
 | k+1=>zs.map (fun z=>AV.v z.val)++jc zs k
theorem eT (zs:List ZC):∀ k,(jc zs k).length=k*zs.length
 | 0=>by simp [jc]
 | k+1=>by simp [jc,eT zs k,Nat.add_mul];omega
theorem u9 (zs:List ZC):∀ (k i:Nat),i<k*zs.length→(jc zs k)[i]?=(zs[i%zs.length]?).map fun z=>AV.v z.val
 | 0,i,h=>by simp at h
 | k+1,i,h=>by
  simp only [jc];by_cases h1:i<zs.length
  · rw [List.getElem?_append_left (by simpa using h1),List.getElem?_map,Nat.mod_eq_of_lt h1]
  · rw [List.getElem?_append_right (by simpa using h1),List.length_map,u9 zs k (i-zs.length) (by rw [Nat.add_mul] at h;omega)]
    rw [← Nat.mod_eq_sub_mod (by omega)]
theorem pJ {w:World} {φ:aD} {Λ:aW} {zs:List ZC} {z:Array Value} (hz:z=(zs.map ZC.val).toArray) (k:Nat) (m:Nat) (hm:m=k*zs.length) :
 lH w φ Λ ((Array.range m).map (z[·%z.size]!)) (jc zs k):=by
 have hzs:z.size=zs.length:=by rw [hz];simp
 refine ⟨by rw [eT,← hm];simp,fun j c hj=>?_⟩;have hlt:j<m:=by rw [hm,← eT];exact (List.getElem?_eq_some_iff.1 hj).1
 rw [u9 zs k j (by omega),Option.map_eq_some_iff] at hj;obtain ⟨q,h1,rfl⟩:=hj;refine ⟨q.val,?_,.v⟩;have h0:0<zs.length:=by
  rcases Nat.eq_zero_or_pos zs.length with h|h
  · rw [h] at hm;omega
  · exact h
 have hmod:j%zs.length<zs.length:=Nat.mod_lt _ h0;rw [Nat.zero_add,Array.getElem?_map,Array.getElem?_range,if_pos hlt];simp only [Option.map_some,Option.some.injEq,hzs];rw [getElem!_pos z (j%zs.length) (by rw [hzs];exact hmod)];subst hz;have:=(List.getElem?_eq_some_iff.1 h1).2;simp [this]
theorem rj (hte:TEok P te) {t e:TypeId} {m id:Nat} {parts:Array (Nat×Operand)} {ti tj:TI} {cs:List AV} (ho:o.op=.buildSlice t m parts) (ht:te.get t=some ti) (hk:ti.k=.slice e) (he:te.get e=some tj)
 (hid:s.h id=none) (hcs:eo (j7 tj.size) (jc tj.zero m) (parts.toList.map fun p=>(p.1,s.ev p.2))=some cs) (hz:Nat.beq tj.zero.length tj.size=true) (hsm:Nat.ble (m*tj.size) 1000=true)
 (hdd:o.dst=d) (hd:d.all (Nat.blt · n)=true):OpOk P n o s ((s.seth id (some (.row cs tj.size 0))).put d (.sl id 0 0 m tj.size)):=
 .chg hdd hd fun Λ w φ a hs=>by
  have hu:=(hte.tells ht).slice hk;obtain ⟨z,z1,z2,_⟩:=(hte.tells he).run_zero w;obtain ⟨q1,q2⟩:=nQ hs parts;have hzl:=Nat.eq_of_beq_eq_true hz;have hle:=Nat.le_of_ble_eq_true hsm;have hsmall:¬ (m*tj.size > 2 ^ 24):=by omega
  have hzero:∃ zc:Array Value,((if m*tj.size=0 then pure #[] else do pure (← zeroValue e).cells:Sem (Array Value)).run P w=.ok zc w)∧lH w φ Λ ((Array.range (m*tj.size)).map (zc[·%zc.size]!)) (jc tj.zero m):=by
   by_cases h0:m*tj.size=0
   · refine ⟨#[],by rw [if_pos h0];rfl,?_⟩
     have hn:jc tj.zero m=[]:=List.eq_nil_of_length_eq_zero (by rw [eT,hzl,h0]);rw [hn,h0];exact ⟨by simp,fun j c hj=>by simp at hj⟩
   · refine ⟨z.cells,by rw [if_neg h0];simp [z1],?_⟩
     exact pJ z2 m _ (by rw [hzl])
  obtain ⟨zc,zc1,zc2⟩:=hzero;obtain ⟨arr',r1,r2,r3⟩:=ne zc2 q1 q2 hcs;have hc:=Chg.alloc hs.hs hid (.cells arr' e) 0 0;have hrun:(Instr.buildSlice t m (parts.map fun (i,x)=>(i,a.eval x))).run P w=.ok (.slice (some ⟨w.heap.size,0,none⟩) m m) (w.alloc (.cells arr' e)):=by
   have r1':Instr.fill (fun i=>some (i*tj.size,tj.size)) ((Array.range (m*tj.size)).map (zc[·%zc.size]!)) (parts.map fun (i,x)=>(i,a.eval x)).toList=some arr':=r1;by_cases h0:m*tj.size=0
   · rw [if_pos h0] at zc1
     simp only [Sem.run_pure,Result.ok.injEq,and_true] at zc1;subst zc1;simp only [Instr.buildSlice,Sem.run_bind,run_underlying hu,Result.andThen_ok,(hte.tells he).run_sizeOf,hsmall,if_false];rw [if_pos h0];simp only [Sem.run_bind,Sem.run_pure,Result.andThen_ok,r1',newRow,run_newObj];rfl
   · rw [if_neg h0] at zc1
     simp only [Sem.run_bind,z1,Result.andThen_ok,Sem.run_pure,Result.ok.injEq,and_true] at zc1;subst zc1;simp only [Instr.buildSlice,Sem.run_bind,run_underlying hu,Result.andThen_ok,(hte.tells he).run_sizeOf,hsmall,if_false];rw [if_neg h0];simp only [Sem.run_bind,Sem.run_pure,Result.andThen_ok,z1,r1',newRow,run_newObj];rfl
  refine ⟨_,_,_,?_,hc,jj rfl (w0:=w) (by omega) (fun j c hj=>?_),.slice (some ⟨w.heap.size,0,none⟩) m m,.inl rfl,?_⟩
  · simp [execOp,ho,hrun]
  · obtain ⟨y,y1,y2⟩:=r3 j c hj
    rw [Nat.zero_add] at y1;exact ⟨y,y1,hc.rep y2⟩
  · have hlen:cs.length=m*tj.size:=by
     have:=m5 hcs;rw [this,eT,hzl]
    exact Rep.sl (off:=0) (aZ _ _ _) rfl rfl (heap_alloc_new w _) (by omega) (Nat.le_refl _)
end rules
section
variable {P:Program} {n:Nat} {Q:bB} {s:AS} {ops:Array Oper} {te:TE} {o:Oper} {d:Option Tmp}
theorem AOps.dec {i:Nat} {rest:List Nat} {p:Prop} {hp:Decidable p} {d:Option Tmp} (ho:ops[i]?=some o) (hg:o.guard=none) (h:OpOk P n o s (s.put d (tf (decide p))))
 (ht:p→AOps P n ops Q rest (s.put d (tf true))) (hf:¬ p→AOps P n ops Q rest (s.put d (tf false))):AOps P n ops Q (i::rest) s:=by
 by_cases hx:p
 · rw [decide_eq_true hx] at h
   exact AOps.cons ho hg h (ht hx)
 · rw [decide_eq_false hx] at h
   exact AOps.cons ho hg h (hf hx)
theorem AOps.gdec {i:Nat} {rest:List Nat} {p:Prop} {hp:Decidable p} {d:Option Tmp} {j:Nat} {want:Bool} {oj:Oper} {dj:Nat} (ho:ops[i]?=some o) (hg:o.guard=some (j,want)) (hj:ops[j]?=some oj)
 (hd:oj.dst=some dj) (hb:s.t dj=tf want) (h:OpOk P n o s (s.put d (tf (decide p))))
 (ht:p→AOps P n ops Q rest (s.put d (tf true))) (hf:¬ p→AOps P n ops Q rest (s.put d (tf false))):AOps P n ops Q (i::rest) s:=by
 by_cases hx:p
 · rw [decide_eq_true hx] at h
   exact AOps.gcons ho hg hj hd hb h (ht hx)
 · rw [decide_eq_false hx] at h
   exact AOps.gcons ho hg hj hd hb h (hf hx)
theorem AOps.bool {i:Nat} {rest:List Nat} {b:Bool} {d:Option Tmp} (ho:ops[i]?=some o) (hg:o.guard=none) (h:OpOk P n o s (s.put d (tf b)))
 (ht:b=true→AOps P n ops Q rest (s.put d (tf true))) (hf:b=false→AOps P n ops Q rest (s.put d (tf false))):AOps P n ops Q (i::rest) s:=by
 cases b with
 | true=>exact AOps.cons ho hg h (ht rfl)
 | false=>exact AOps.cons ho hg h (hf rfl)
theorem AOps.gbool {i:Nat} {rest:List Nat} {b:Bool} {d:Option Tmp} {j:Nat} {want:Bool} {oj:Oper} {dj:Nat} (ho:ops[i]?=some o) (hg:o.guard=some (j,want)) (hj:ops[j]?=some oj)
 (hd:oj.dst=some dj) (hb:s.t dj=tf want) (h:OpOk P n o s (s.put d (tf b)))
 (ht:b=true→AOps P n ops Q rest (s.put d (tf true))) (hf:b=false→AOps P n ops Q rest (s.put d (tf false))):AOps P n ops Q (i::rest) s:=by
 cases b with
 | true=>exact AOps.gcons ho hg hj hd hb h (ht rfl)
 | false=>exact AOps.gcons ho hg hj hd hb h (hf rfl)
theorem AWp.cond_t {c:Operand} {x y:Code} (hc:s.ev c=tf true) (h:AWp P n x Q s):AWp P n (.cond c x y) Q s:=AWp.cond hc (fun _=>h) (fun e=>by cases e)
theorem AWp.cond_f {c:Operand} {x y:Code} (hc:s.ev c=tf false) (h:AWp P n y Q s):AWp P n (.cond c x y) Q s:=AWp.cond hc (fun e=>by cases e) (fun _=>h)
theorem j9 {a:Int} (h1:-9223372036854775808≤a) (h2:a≤9223372036854775807):IntKind.i64.wrap a=a:=by
 have e1:IntKind.i64.bits=64:=rfl;have e2:IntKind.i64.min=-9223372036854775808:=by decide
 unfold IntKind.wrap;first
  | (simp only [e1,e2];omega)
  | (simp [IntKind.signed,IntKind.bits] ;omega)
def ct (a:Int):UInt8:=UInt8.ofNat (a%256).toNat
theorem bV (a:Int):((ct a).toNat:Int)=a%256:=by
 unfold ct;have:(a%256).toNat<256:=by omega
 simp [UInt8.toNat_ofNat_of_lt' this];omega
theorem wE (a:Int):IntKind.u8.wrap a=((ct a).toNat:Int):=by
 rw [bV];unfold IntKind.wrap;first
  | rfl
  | (simp [IntKind.signed,IntKind.bits])
theorem vy (a:Int):ct (a%256)=ct a:=by
 unfold ct;rw [Int.emod_emod_of_dvd a (Int.dvd_refl 256)]
theorem mb (b:UInt8):ct (b.toNat:Int)=b:=by
 apply UInt8.toNat_inj.1
 have:=bV (b.toNat:Int);have h:=b.toNat_lt;omega
section bin
variable {t:TypeId} {x y:Operand} {k:IntKind} {a b:Int}
theorem Fx (h1:-9223372036854775808≤a+b) (h2:a+b≤9223372036854775807):bP P .add t x y (.int .i64 a) (.int .i64 b) (.int .i64 (a+b)):=by
 have:=Bf (P:=P) (t:=t) (x:=x) (y:=y) (k:=.i64) (a:=a) (b:=b)
 rwa [j9 h1 h2] at this
theorem Fp (h1:-9223372036854775808≤a-b) (h2:a-b≤9223372036854775807):bP P .sub t x y (.int .i64 a) (.int .i64 b) (.int .i64 (a-b)):=by
 have:=Fa (P:=P) (t:=t) (x:=x) (y:=y) (k:=.i64) (a:=a) (b:=b)
 rwa [j9 h1 h2] at this
theorem Fu (h1:-9223372036854775808≤a*b) (h2:a*b≤9223372036854775807):bP P .mul t x y (.int .i64 a) (.int .i64 b) (.int .i64 (a*b)):=by
 have:=Fg (P:=P) (t:=t) (x:=x) (y:=y) (k:=.i64) (a:=a) (b:=b)
 rwa [j9 h1 h2] at this
theorem Ft (h:0<b) (h0:0≤a) (h1:a≤9223372036854775807):bP P .quo t x y (.int .i64 a) (.int .i64 b) (.int .i64 (a / b)):=by
 have:=Fe (P:=P) (t:=t) (x:=x) (y:=y) (k:=.i64) (a:=a) (b:=b) (by omega);rw [Int.tdiv_eq_ediv_of_nonneg h0] at this;have h2:a / b≤a:=Int.ediv_le_self b h0;have h3:0≤a / b:=Int.ediv_nonneg h0 (by omega)
 rwa [j9 (by omega) (by omega)] at this
theorem Fs (h:0<b) (h0:0≤a):bP P .rem t x y (.int k a) (.int k b) (.int k (a%b)):=by
 have:=Fd (P:=P) (t:=t) (x:=x) (y:=y) (k:=k) (a:=a) (b:=b) (by omega)
 rwa [Int.tmod_eq_emod_of_nonneg h0] at this
theorem Fq {k':IntKind} {m:Nat} (hm:b=(m:Int)) (h:m≤k.bits):bP P .shr t x y (.int k a) (.int k' b) (.int k (a / 2 ^ m)):=by
 subst hm;have:=Fb (P:=P) (t:=t) (x:=x) (y:=y) (k:=k) (k':=k') (a:=a) (b:=m) (by omega);simp only [Int.toNat_natCast,Nat.min_eq_left h] at this;have e:a.fdiv (2 ^ m)=a / 2 ^ m:=Int.fdiv_eq_ediv_of_nonneg a (by exact Int.le_of_lt (Int.pow_pos (by omega)))
 rwa [e] at this
theorem Fr {k':IntKind} {m:Nat} (hm:b=(m:Int)) (h:m≤64) (h1:-9223372036854775808≤a*2 ^ m) (h2:a*2 ^ m≤9223372036854775807):bP P .shl t x y (.int .i64 a) (.int k' b) (.int .i64 (a*2 ^ m)):=by
 subst hm;have:=Fc (P:=P) (t:=t) (x:=x) (y:=y) (k:=.i64) (k':=k') (a:=a) (b:=m) (by omega);simp only [Int.toNat_natCast,Nat.min_eq_left (show m≤IntKind.i64.bits from h)] at this
 rwa [j9 h1 h2] at this
theorem Fz:bP P .eql t x y (.int k a) (.int k b) (.bool (decide (a=b))):=Fm
theorem Fy:bP P .neq t x y (.int k a) (.int k b) (.bool (decide (¬ a=b))):=by
 have:=Ff (P:=P) (t:=t) (x:=x) (y:=y) (k:=k) (a:=a) (b:=b);have e:(a != b)=decide (¬ a=b):=by by_cases h:a=b<;>simp [h]
 rwa [e] at this
variable {l m:List UInt8}
theorem CT:bP P .eql t x y (.string ⟨⟨l⟩⟩) (.string ⟨⟨m⟩⟩) (.bool (decide (l=m))):=by
 have:=CO (P:=P) (t:=t) (x:=x) (y:=y) (l:=l) (m:=m);have e:(l == m)=decide (l=m):=by by_cases h:l=m<;>simp [h]
 rwa [e] at this
theorem CS:bP P .neq t x y (.string ⟨⟨l⟩⟩) (.string ⟨⟨m⟩⟩) (.bool (decide (¬ l=m))):=by
 have:=CN (P:=P) (t:=t) (x:=x) (y:=y) (l:=l) (m:=m);have e:(!(l == m))=decide (¬ l=m):=by by_cases h:l=m<;>simp [h]
 rwa [e] at this
end bin
theorem vY (hte:TEok P te) {src dst:TypeId} {x:Operand} {k:IntKind} {a:Int} {i j:TI} (ho:o.op=.convert src dst x) (hx:s.ev x=.v (.int k a))
 (hi:te.get src=some i) (hj:te.get dst=some j) (hk:j.k=.int .u8) (hdd:o.dst=d) (hd:d.all (Nat.blt · n)=true):OpOk P n o s (s.put d (u8 (ct a).toNat)):=by
 have:=kf (P:=P) (n:=n) (s:=s) hte ho hx hi hj hk hdd hd
 rwa [wE] at this
theorem oK (hte:TEok P te) {src dst:TypeId} {x:Operand} {k:IntKind} {a:Int} {i j:TI} (ho:o.op=.convert src dst x) (hx:s.ev x=.v (.int k a))
 (hi:te.get src=some i) (hj:te.get dst=some j) (hk:j.k=.int .i64) (h1:-9223372036854775808≤a) (h2:a≤9223372036854775807) (hdd:o.dst=d) (hd:d.all (Nat.blt · n)=true):OpOk P n o s (s.put d (i64 a)):=by
 have:=kf (P:=P) (n:=n) (s:=s) hte ho hx hi hj hk hdd hd
 rwa [j9 h1 h2] at this
theorem zO (lv:Nat) {x:Operand} {k:Nat} (ho:o.op=.assign x∨o.op=.move x) (hx:s.ev x=.v (.slice none 0 k)) (hdd:o.dst=d) (hd:d.all (Nat.blt · n)=true):OpOk P n o s (s.put d (.fz lv 0 [])):=
 .val hdd hd fun Λ w φ a hs=>by
  refine ⟨a.eval x,?_,by rw [cc hs hx];exact .fz0⟩;rcases ho with ho|ho<;>simp [execOp,ho]
theorem yb (id esz:Nat) {x:Operand} (ho:o.op=.assign x∨o.op=.move x) (hx:s.ev x=.v (.slice none 0 0)) (hid:s.h id=none) (hdd:o.dst=d) (hd:d.all (Nat.blt · n)=true) :
 OpOk P n o s ((s.seth id (some (.row [] esz 0))).put d (.sl id 0 0 0 esz)):=
 .chg hdd hd fun Λ w φ a hs=>by
  have hn:=hs.hs.dom id hid;have hc:Chg w φ Λ s.h id ⟨none,0⟩ w:=⟨hs.hs,Nat.le_refl _,rfl,rfl,rfl,fun _ _ _=>rfl,(fun b' o' h=>by cases h),(fun l hl=>by rw [hn] at hl;cases hl),(fun l hl=>by rw [hn] at hl;cases hl),.refl w⟩;refine ⟨.value (.slice none 0 0),w,⟨none,0⟩,?_,hc,⟨rfl,.inl ⟨rfl,rfl⟩⟩,_,.inl rfl,.sl0 (aZ _ _ _) rfl⟩;have:=cc hs hx;rcases ho with ho|ho<;>simp [execOp,ho,this]
theorem may.up {φ:aD} {Λ:aW} {l l' b:Nat} (hl:l≤l') (h:may φ Λ l b):may φ Λ l' b:=⟨h.1,fun k hk=>h.2 k (by omega)⟩
theorem Rep.up_fz {w:World} {φ:aD} {Λ:aW} {l l' n:Nat} {cs:List AV} {v:Value} (hl:l≤l') (h:Rep w φ Λ (.fz l n cs) v):Rep w φ Λ (.fz l' n cs) v:=by
 cases h with
 | fz0=>exact .fz0
 | fz vf h1 h2 h3 h4 h5 h6=>exact .fz vf (h1.up hl) h2 (fun c hc=>AV.ok_mono hl (h3 c hc)) h4 h5 h6
def lP (h:aX) (lo hi:Nat) (a b:AV):Prop:=lo≤hi→∀ (w:World) (φ:aD) (Λ Λ':aW) (v:Value),HSim w φ Λ h→(∀ l b,l≤lo→b<w.heap.size→may φ Λ l b→may (fun _=>none) Λ' l b)→
 (∀ b,bp φ b→may (fun _=>none) Λ' hi b)→Rep w φ Λ a v→Rep w (fun _=>none) Λ' b v
theorem km {h:aX} {lo hi:Nat} {a:AV} (e:a.ok lo=true):lP h lo hi a a:=fun _ _ _ _ _ _ _ hm _ hr=>hr.move (lv:=lo) hm e
theorem wl {h:aX} {lo hi id ver off len esz:Nat} {ob:AObj} {cells cs:List AV} (h1:h id=some ob) (h2:ob.at ver=some cells) (h3:AV.oks lo cells=true) (h4:off+len*esz≤cells.length) (h5:0<esz)
 (h6:(cells.drop off).take (len*esz)=cs):lP h lo hi (.sl id ver off len esz) (.fz hi len cs):=by
 intro hle w φ Λ Λ' v hs hm hown hr;have:=u7 hs hle hm hown (x:=.sl id ver off len esz) ⟨ob,cells,h1,h2,AV.oks_iff.1 h3,h4,h5⟩ hr
 simpa only [yx,h1,h2,h6] using this
theorem ER {h:aX} {lo hi id ver off:Nat} {ob:AObj} {cells cs:List AV} (h1:h id=some ob) (h2:ob.at ver=some cells) (h3:AV.oks lo cells=true) (h4:off<cells.length)
 (h6:cells.drop off=cs):lP h lo hi (.ptr id ver off) (.fp hi cs):=by
 intro hle w φ Λ Λ' v hs hm hown hr;have:=u7 hs hle hm hown (x:=.ptr id ver off) ⟨ob,cells,h1,h2,AV.oks_iff.1 h3,h4⟩ hr
 simpa only [yx,h1,h2,h6] using this
def FVals (h:aX) (lo hi:Nat):List AV→List AV→Prop
 | [],[]=>True
 | a::l,b::m=>lP h lo hi a b∧FVals h lo hi l m
 | _,_=>False
theorem FVals.length {h:aX} {lo hi:Nat}:∀ {l m:List AV},FVals h lo hi l m→l.length=m.length
 | [],[],_=>rfl
 | a::l,b::m,e=>by simp [FVals.length e.2]
 | [],_::_,e=>e.elim
 | _::_,[],e=>e.elim
theorem FVals.get {h:aX} {lo hi:Nat}:∀ {l m:List AV},FVals h lo hi l m→∀ (j:Nat) b,m[j]?=some b→∃ a,l[j]?=some a∧lP h lo hi a b
 | [],[],_,j,b,hj=>by simp at hj
 | a::l,b::m,e,0,c,hj=>by simp at hj;subst hj;exact ⟨a,rfl,e.1⟩
 | a::l,b::m,e,j+1,c,hj=>by simpa using FVals.get e.2 j c (by simpa using hj)
 | [],_::_,e,_,_,_=>e.elim
 | _::_,[],e,_,_,_=>e.elim
theorem wk {h:aX} {lo hi:Nat} {l m:List AV} (e:FVals h lo hi l m):lP h lo hi (.tup l) (.tup m):=by
 intro hle w φ Λ Λ' v hs hm hown hr;cases hr with
 | tup vf h1 h2 h3=>
  refine .tup vf (by rw [h1,e.length]) (fun j hj=>h2 j (by rw [e.length];exact hj)) (fun j c hj=>?_);obtain ⟨a,h4,h5⟩:=e.get j c hj;exact h5 hle w φ Λ Λ' _ hs hm hown (h3 j a h4)
theorem np {w:World} {φ:aD} {Λ:aW} {a:Act} (hs:Sim n w φ Λ s a) {fop:Operand} {argops:Array Operand} {f:Fn} {first caps:List AV} (hf:s.ev fop=.fn f first caps) :
 ∃ fv cv:Array Value,a.eval fop=.func f fv cv∧eI w φ Λ (first++argops.toList.map s.ev++caps) (fv++argops.map a.eval++cv):=by
 have hr:=hs.ev fop;rw [hf] at hr;generalize hv:a.eval fop=v at hr;cases hr with
 | fn vf wf h1 h2 h3 h4 h5 h6=>
  rename_i fv cv
  refine ⟨fv,cv,rfl,by simp [h1,h4],fun j c hj=>?_⟩;by_cases hj1:j<first.length
  · rw [List.append_assoc,List.getElem?_append_left hj1] at hj
    refine ⟨vf j,?_,h3 j c hj⟩;rw [Array.append_assoc,Array.getElem?_append_left (by omega)];exact h2 j hj1
  · by_cases hj2:j<first.length+argops.size
    · rw [List.append_assoc,List.getElem?_append_right (by omega),List.getElem?_append_left (by simp;omega),List.getElem?_map,Option.map_eq_some_iff] at hj
      obtain ⟨x,hx,rfl⟩:=hj;refine ⟨a.eval x,?_,hs.ev x⟩;rw [Array.append_assoc,Array.getElem?_append_right (by omega),Array.getElem?_append_left (by simp;omega),h1,Array.getElem?_map];rw [Array.getElem?_toList] at hx;rw [hx];rfl
    · rw [List.getElem?_append_right (by simp;omega)] at hj
      simp only [List.length_append,List.length_map,Array.length_toList] at hj;have hlt:=(List.getElem?_eq_some_iff.1 hj).1;refine ⟨wf (j-(first.length+argops.size)),?_,h6 _ c hj⟩;rw [Array.getElem?_append_right (by simp;omega)];simp only [Array.size_append,Array.size_map,h1];exact h5 _ hlt
theorem OpX.call1 {K:AS→Prop} {fop:Operand} {argops:Array Operand} {tys:Array TypeId} {f:FuncId} {first caps A:List AV} {R:AEnd→aX→Prop} (lv:Nat)
 (ho:o.op=.call { callee:=.value fop,args:=argops,argTypes:=tys }) (hf:s.ev fop=.fn (.func f) first caps)
 (hA:FVals s.h lv (lv+1) (first++argops.toList.map s.ev++caps) A) (hc:AC P f A emp R) (hdd:o.dst=d) (hd:d.all (Nat.blt · n)=true)
 (hret:∀ r h',R (.ret r) h'→r.ok lv=true∧K (s.put d r)) (hpan:∀ x h',R (.panic x) h'→Q (.panic x) s):OpX P n o Q s K:=by
 intro Λ w φ a hs next QQ hN hP;subst hdd;obtain ⟨⟨fn,c,hb⟩,hcall⟩:=hc
 let Λ':aW:=fun k b=>Λ k b∨(k=lv+1∧bp φ b)
 have hm:∀ l b,l≤lv→b<w.heap.size→may φ Λ l b→may (fun _=>none) Λ' l b:=fun l b hl _ h=>⟨fun h1=>aI h1,fun k hk h1=>by
  rcases h1 with h1|⟨_,h1⟩
  · exact h.2 k hk h1
  · exact h.1 h1⟩
 have hown:∀ b,bp φ b→may (fun _=>none) Λ' (lv+1) b:=fun b hb=>⟨fun h1=>aI h1,fun k hk h1=>by
  rcases h1 with h1|⟨h1,_⟩
  · obtain ⟨id,l,oo,g1,g2⟩:=hb
    exact (hs.hs.lt _ _ _ _ g1 g2).2 k h1
  · omega⟩
 have hs0:HSim w (fun _=>none) Λ' emp:=by
  refine ⟨(fun id ob h=>by cases h),fun _ _=>rfl,(fun id l b o h=>by cases h),(fun id id' l l' b o o' h=>by cases h),fun k b h=>?_⟩;rcases h with h|⟨_,id,l,oo,g1,g2⟩
  · exact hs.hs.lent k b h
  · exact (hs.hs.lt _ _ _ _ g1 g2).1
 obtain ⟨fv,cv,hfv,hsz,hargs0⟩:=np hs hf;have hargs:eI w (fun _=>none) Λ' A (fv++argops.map a.eval++cv):=by
  refine ⟨by rw [hsz,hA.length],fun j b hj=>?_⟩;obtain ⟨x,h1,h2⟩:=hA.get j b hj;obtain ⟨v,h3,h4⟩:=hargs0 j x h1;exact ⟨v,h3,h2 (Nat.le_succ lv) w φ Λ Λ' v hs.hs hm hown h4⟩
 unfold Oper.wp;rw [fQ hb ho hfv];have back:∀ h' w' φ',HSim w' φ' Λ' h'→Goes w (fun _=>none) w' φ'→Goes w φ w' φ∧Stays w φ w' φ∧HSim w' φ Λ s.h:=by
  intro h' w' φ' hs' g;have hkeep:∀ b,b<w.heap.size→w'.heap[b]?=w.heap[b]?:=fun b hb=>g.keep b hb fun h1=>aI h1
  have st:Stays w φ w' φ:=⟨fun id l h=>⟨l,h,.inl rfl⟩,fun id l h1 _ b oo arr T m h2 h3=>⟨arr,T,m,by rw [hkeep b (hs.hs.lt _ _ _ _ h1 h2).1];exact h3,Nat.le_refl _⟩⟩;have g2:Goes w φ w' φ:=⟨fun b hb _=>hkeep b hb,g.size,fun _ h=>.inl h,g.os,g.tape,g.output,st.pin,g.fro⟩;refine ⟨g2,st,⟨fun id ob h=>?_,hs.hs.dom,fun id l b oo h1 h2=>?_,hs.hs.inj,fun k b h=>Nat.lt_of_lt_of_le (hs.hs.lent k b h) g.size⟩⟩
  · obtain ⟨l,h1,h2⟩:=hs.hs.heap id ob h
    exact ⟨l,h1,h2.goes g2 st fun b oo h3=>hkeep b (hs.hs.lt _ _ _ _ h1 h3).1⟩
  · obtain ⟨h3,h4⟩:=hs.hs.lt id l b oo h1 h2
    exact ⟨Nat.lt_of_lt_of_le h3 g.size,h4⟩
 refine Calls.mono (hcall Λ' w (fun _=>none) _ hs0 hargs (fun e w'=>match e with
  | .returned v=>next (a.put o.dst v) w'
  | .panicked chain=>QQ (.panic chain) a w'
  | .outgrown=>False) ?_ ?_) ?_
 · intro r h' w' φ' v hR hs' g hr
   obtain ⟨hok,hrest⟩:=hret r h' hR;obtain ⟨g2,st,hs2⟩:=back h' w' φ' hs' g;have hr2:Rep w' φ Λ r v:=by
    refine hr.move (lv:=lv) (fun l b hl hb hmay=>⟨fun h1=>?_,fun k hk h1=>hmay.2 k hk (.inl h1)⟩) hok;exact hmay.2 (lv+1) (by omega) (.inr ⟨rfl,h1⟩)
   have hsa:Sim n w' φ Λ s a:=⟨hs.defs,hs.size,fun i=>(hs.tmps i).goes g2 st,hs2⟩;exact hN _ w' φ _ hrest (hsa.put o.dst hd hr2) g2
 · intro x h' w' φ' hR hs' g
   obtain ⟨g2,st,hs2⟩:=back h' w' φ' hs' g;have hsa:Sim n w' φ Λ s a:=⟨hs.defs,hs.size,fun i=>(hs.tmps i).goes g2 st,hs2⟩;exact hP x s w' φ a (hpan x h' hR) hsa g2
 · intro e w' h
   cases e with
   | returned v=>exact h
   | panicked chain=>exact h
   | outgrown=>exact h.elim
theorem C0 {fop:Operand} {argops:Array Operand} {tys:Array TypeId} {f:FuncId} {first caps A:List AV} {r:AV} (lv:Nat)
 (ho:o.op=.call { callee:=.value fop,args:=argops,argTypes:=tys }) (hf:s.ev fop=.fn (.func f) first caps)
 (hc:AC P f A emp (Ret r)) (hA:FVals s.h lv (lv+1) (first++argops.toList.map s.ev++caps) A) (hr:r.ok lv=true)
 (hdd:o.dst=d) (hd:d.all (Nat.blt · n)=true):OpOk P n o s (s.put d r):=by
 intro Λ w φ a hs next QQ hN;refine OpX.call1 (Q:=fun _ _=>False) (K:=fun s'=>s'=s.put d r) lv ho hf hA hc hdd hd (fun r' h' hR=>?_) (fun x h' hR=>?_) Λ w φ a hs next QQ (fun s' w' φ' a' hk hs' g=>?_) (fun x s' w' φ' a' q=>q.elim)
 · obtain ⟨h1,_⟩:=hR
   cases h1;exact ⟨hr,rfl⟩
 · exact absurd hR.1 (by simp)
 · subst hk
   exact hN w' φ' a' hs' g
theorem Sees.fv {h:aX} {a b:AV} {lv:Nat} (e:lP h lv lv a b) (hp:mS h=true):Sees h a emp b:=fun w φ Λ v h1 h2=>
 have g:=yw w (φ:=φ) fun id hi=>h1.dom id (ug hp hi)
 ⟨fun _=>none,yt h1,e (Nat.le_refl _) w φ Λ Λ v h1 (fun l b _ hb hm=>hm.goes g hb)
  (fun b hb=>⟨fun h=>aI h,fun k _=>by obtain ⟨id,l,o,g1,g2⟩:=hb;exact (h1.lt _ _ _ _ g1 g2).2 k⟩) h2,g⟩
theorem Fin.ret2 {fn:Func} {r:AV} {xs ys:List AV} (lv:Nat) (h1:iK te s fn.results.toList xs) (h2:FVals s.h lv lv xs ys) (h3:bX ys=r) (hp:mS s.h=true:=by rfl):Fin te fn (Ret r) s:=by
 have key:lP s.h lv lv (bX xs) (bX ys):=by
  match xs,ys,h2 with
  | [],[],h2=>exact wk h2
  | [x],[y],h2=>exact h2.1
  | x1::x2::xs,y1::y2::ys,h2=>exact wk h2
  | x::xs,[],h2=>exact h2.elim
  | [],y::ys,h2=>exact h2.elim
  | [x],y1::y2::ys,h2=>exact h2.2.elim
  | x1::x2::xs,[y],h2=>exact h2.2.elim
 exact ⟨xs,r,emp,h1,h3▸Sees.fv key hp,rfl,rfl⟩
theorem AWp.loopI {α:Type} {c:Code} (S:α→AS) (I:α→Prop) (μ:α→Nat) (x0:α) (hI:I x0) (h0:Weak s (S x0))
 (round:∀ x,I x→AWp P n c (AExit.then (fun s'=>∃ x',I x'∧Weak s' (S x')∧μ x'<μ x) Q) (S x)):AWp P n (.loop c) Q s:=by
 refine AWp.loop (α:={x:α // I x}) (fun x=>S x.1) (fun x=>μ x.1) ⟨x0,hI⟩ h0 fun x=>(round x.1 x.2).mono fun e s' q=>?_
 cases e with
 | normal=>
  obtain ⟨x',h1,h2,h3⟩:=q;exact ⟨⟨x',h1⟩,h2,h3⟩
 | exit id=>exact q
 | goto l=>exact q
 | ret=>exact q
 | panic x=>exact q
theorem AWp.cutI {α:Type} {x y:Code} (S:α→AS) (I:α→Prop) (h1:AWp P n x (AExit.then (fun s'=>∃ a,I a∧Weak s' (S a)) Q) s) (h2:∀ a,I a→AWp P n y Q (S a)):AWp P n (.seq x y) Q s:=by
 refine AWp.seq (h1.mono fun e s' q=>?_);cases e with
 | normal=>
  obtain ⟨a,hi,hw⟩:=q;exact AWp.weak hw (h2 a hi)
 | exit id=>exact q
 | goto l=>exact q
 | ret=>exact q
 | panic x=>exact q
theorem ci {a b:Int} (h:a=b):i64 a=i64 b:=by rw [h]
theorem Gg {id ver off esz a b:Nat} (h:a=b):AV.sl id ver off a esz=AV.sl id ver off b esz:=by rw [h]
end
theorem F7 {lv:Nat} {l:List UInt8}:AV.oks lv (cl bc l)=true:=AV.oks_of (F8 lv l)
theorem xI {S:Nat→Bool} {l:List UInt8}:AV.refss S (cl bc l)=true:=AV.refss_ok (lv:=0) F7
section
variable {P:Program} {n:Nat} {Q:bB} {s:AS} {ops:Array Oper} {te:TE} {o:Oper} {d:Option Tmp}
theorem getD_some {α:Type} {l:List α} {i:Nat} {x:α} (h:i<l.length):l[i]?=some (l.getD i x):=by
 rw [List.getElem?_eq_getElem h,List.getD_eq_getElem?_getD,List.getElem?_eq_getElem h];rfl
theorem rg (hte:TEok P te) {t:TypeId} {x y:Operand} {l:List UInt8} {k:IntKind} {i:Int} {ti:TI} (ho:o.op=.index t x y) (hx:s.ev x=str l) (hy:s.ev y=.v (.int k i))
 (ht:te.get t=some ti) (hk:ti.k=.str) (h0:0≤i) (hc:i<l.length) (hdd:o.dst=d) (hd:d.all (Nat.blt · n)=true):OpOk P n o s (s.put d (u8 (l.getD i.toNat 0).toNat)):=
 sR hte ho hx hy ht hk h0 (getD_some (by omega)) hdd hd
def EvL (s:AS):List (Nat×Operand)→List (Nat×AV)→Prop
 | [],[]=>True
 | (i,x)::r,(j,v)::q=>i=j∧s.ev x=v∧EvL s r q
 | _,_=>False
theorem EvL.eq:∀ {l:List (Nat×Operand)} {m:List (Nat×AV)},EvL s l m→l.map (fun p=>(p.1,s.ev p.2))=m
 | [],[],_=>rfl
 | (i,x)::r,(j,v)::q,h=>by
  obtain ⟨h1,h2,h3⟩:=h;simp only [List.map_cons,h1,h2,EvL.eq h3]
 | [],_::_,h=>h.elim
 | _::_,[],h=>h.elim
theorem nW (hte:TEok P te) {t:TypeId} {parts:Array (Nat×Operand)} {l:List (Nat×TypeId)} {ti:TI} {cs cs':List AV} {vals:List (Nat×AV)} (ho:o.op=.build t parts) (hv:EvL s parts.toList vals) (ht:te.get t=some ti) (hk:ti.k=.struct l)
 (hall:(l.all fun p=>(te.get p.2).isSome)=true) (hcs:eo (dv te l) (ti.zero.map fun z=>AV.v z.val) vals=some cs) (hc':cs=cs')
 (hdd:o.dst=d) (hd:d.all (Nat.blt · n)=true):OpOk P n o s (s.put d (.agg cs')):=
 hc'▸p7 hte ho ht hk hall (by rw [hv.eq];exact hcs) hdd hd
theorem ri (hte:TEok P te) {t e:TypeId} {m:Nat} {parts:Array (Nat×Operand)} {ti tj:TI} {cs cs':List AV} {vals:List (Nat×AV)} (ho:o.op=.build t parts) (hv:EvL s parts.toList vals) (ht:te.get t=some ti) (hk:ti.k=.arr m e) (he:te.get e=some tj)
 (hcs:eo (j7 tj.size) (ti.zero.map fun z=>AV.v z.val) vals=some cs) (hc':cs=cs')
 (hdd:o.dst=d) (hd:d.all (Nat.blt · n)=true):OpOk P n o s (s.put d (.agg cs')):=
 hc'▸sT hte ho ht hk he (by rw [hv.eq];exact hcs) hdd hd
theorem qn (hte:TEok P te) {t e:TypeId} {m id:Nat} {parts:Array (Nat×Operand)} {ti tj:TI} {cs cs':List AV} {vals:List (Nat×AV)} (ho:o.op=.buildSlice t m parts) (hv:EvL s parts.toList vals) (ht:te.get t=some ti) (hk:ti.k=.slice e) (he:te.get e=some tj)
 (hid:s.h id=none) (hcs:eo (j7 tj.size) (jc tj.zero m) vals=some cs) (hc':cs=cs') (hz:Nat.beq tj.zero.length tj.size=true) (hsm:Nat.ble (m*tj.size) 1000=true)
 (hdd:o.dst=d) (hd:d.all (Nat.blt · n)=true):OpOk P n o s ((s.seth id (some (.row cs' tj.size 0))).put d (.sl id 0 0 m tj.size)):=
 hc'▸rj hte ho ht hk he hid (by rw [hv.eq];exact hcs) hz hsm hdd hd
end
section
variable {P:Program} {n:Nat} {Q:bB} {s:AS} {ops:Array Oper} {te:TE} {o:Oper} {d:Option Tmp}
def EvA (s:AS):List Operand→List AV→Prop
 | [],[]=>True
 | x::r,v::q=>s.ev x=v∧EvA s r q
 | _,_=>False
theorem EvA.get:∀ {l:List Operand} {m:List AV},EvA s l m→l.length=m.length∧∀ (j:Nat) c,m[j]?=some c→∃ x,l[j]?=some x∧s.ev x=c
 | [],[],_=>⟨rfl,fun j c h=>by simp at h⟩
 | x::r,v::q,h=>by
  obtain ⟨h1,h2⟩:=EvA.get h.2;refine ⟨by simp [h1],fun j c hj=>?_⟩;cases j with
  | zero=>simp at hj;subst hj;exact ⟨x,rfl,h.1⟩
  | succ j=>simpa using h2 j c (by simpa using hj)
 | [],_::_,h=>h.elim
 | _::_,[],h=>h.elim
theorem EvA.rep {l:Array Operand} {m:List AV} (h:EvA s l.toList m) {Λ:aW} {w:World} {φ:aD} {a:Act} (hs:Sim n w φ Λ s a) :
 (l.map a.eval).size=m.length∧(∀ j,j<m.length→(l.map a.eval)[j]?=some ((l.map a.eval).getD j undef))∧∀ (j:Nat) c,m[j]?=some c→Rep w φ Λ c ((l.map a.eval).getD j undef):=by
 obtain ⟨h1,h2⟩:=h.get;refine ⟨by simpa using h1,fun j hj=>?_,fun j c hj=>?_⟩
 · have:j<(l.map a.eval).size:=by rw [Array.size_map,← Array.length_toList,h1];exact hj
   simp only [Array.getD,this,dite_true,Array.getElem?_eq_getElem this];rfl
 · obtain ⟨x,h3,h4⟩:=h2 j c hj
   have:(l.map a.eval)[j]?=some (a.eval x):=by
    rw [Array.getElem?_map];rw [Array.getElem?_toList] at h3;rw [h3];rfl
   rw [Array.getD_eq_getD_getElem?,this,← h4];exact hs.ev x
theorem um {f:Fn} {first caps:Array Operand} {fv cv:List AV} (ho:o.op=.makeFunc f first caps) (h1:EvA s first.toList fv) (h2:EvA s caps.toList cv) (hdd:o.dst=d) (hd:d.all (Nat.blt · n)=true) :
 OpOk P n o s (s.put d (.fn f fv cv)):=
 .val hdd hd fun Λ w φ a hs=>by
  obtain ⟨a1,a2,a3⟩:=h1.rep hs;obtain ⟨b1,b2,b3⟩:=h2.rep hs;exact ⟨.func f (first.map a.eval) (caps.map a.eval),by simp [execOp,ho,Instr.makeFunc],.fn _ _ a1 a2 a3 b1 b2 b3⟩
theorem xn {h:aX} {lo hi:Nat} {f:Fn} {a b a' b':List AV} (e:FVals h lo hi a a') (e2:FVals h lo hi b b'):lP h lo hi (.fn f a b) (.fn f a' b'):=by
 intro hle w φ Λ Λ' v hs hm hown hr;cases hr with
 | fn vf wf h1 h2 h3 h4 h5 h6=>
  refine .fn vf wf (by rw [h1,e.length]) (fun j hj=>h2 j (by rw [e.length];exact hj)) (fun j c hj=>?_) (by rw [h4,e2.length]) (fun j hj=>h5 j (by rw [e2.length];exact hj)) (fun j c hj=>?_)
  · obtain ⟨x,k1,k2⟩:=e.get j c hj
    exact k2 hle w φ Λ Λ' _ hs hm hown (h3 j x k1)
  · obtain ⟨x,k1,k2⟩:=e2.get j c hj
    exact k2 hle w φ Λ Λ' _ hs hm hown (h6 j x k1)
theorem Aw {h:aX} {lo hi:Nat}:∀ {l:List AV},AV.oks lo l=true→FVals h lo hi l l
 | [],_=>trivial
 | a::l,e=>by
  simp only [AV.oks,Bool.and_eq_true] at e;exact ⟨km e.1,Aw e.2⟩
theorem sS (hte:TEok P te) {t e:TypeId} {m:Nat} {x y:Operand} {cells:List AV} {k:IntKind} {i:Int} {ti tj:TI} {v:AV} (ho:o.op=.index t x y) (hx:s.ev x=.agg cells) (hy:s.ev y=.v (.int k i))
 (ht:te.get t=some ti) (hk:ti.k=.arr m e) (he:te.get e=some tj) (hj:tj.k.agg=false) (h1:tj.size=1) (hv:cells[i.toNat]?=some v) (h0:0≤i) (hm:i<m) (hdd:o.dst=d) (hd:d.all (Nat.blt · n)=true):OpOk P n o s (s.put d v):=
 .val hdd hd fun Λ w φ a hs=>by
  have hu:=(hte.tells ht).arr hk;have hr:=hs.ev x;rw [hx] at hr;generalize hxv:a.eval x=xv at hr;cases hr with
  | agg vf g1 g2 g3=>
   rename_i vs
   have hlt:=(List.getElem?_eq_some_iff.1 hv).1;refine ⟨vf i.toNat,?_,g3 _ _ hv⟩;have hp:(part e vs (i.toNat*tj.size)).run P w=.ok (vf i.toNat) w:=by
    unfold part;rw [Sem.run_bind,(hte.tells he).run_isAgg w];simp only [Result.andThen_ok,hj,h1,Nat.mul_one,Bool.false_eq_true,if_false,g2 _ hlt];rfl
   simp [execOp,ho,hxv,cc hs hy,Instr.index,asIntOf,run_underlying hu,h0,hm,(hte.tells he).run_sizeOf,hp]
theorem eX {k:Nat} {a:Int} (h0:0≤a) (h1:a<2 ^ k):(BitVec.ofInt k a).toNat=a.toNat:=by
 rw [BitVec.toNat_ofInt];congr 1;exact Int.emod_eq_of_lt h0 (by simpa using h1)
section bin
variable {t:TypeId} {x y:Operand} {k:IntKind} {a b:Int}
theorem GE (h0:0≤a∧a≤9223372036854775807) (h1:0≤b∧b≤9223372036854775807):bP P .or t x y (.int .i64 a) (.int .i64 b) (.int .i64 ((a.toNat ||| b.toNat:Nat):Int)):=by
 have:=DM (P:=P) (t:=t) (x:=x) (y:=y) (k:=.i64) (a:=a) (b:=b);have e1:IntKind.i64.bits=64:=rfl;have e2:(a.toNat ||| b.toNat)<2 ^ 63:=Nat.or_lt_two_pow (by omega) (by omega);rw [e1,BitVec.toNat_or,eX h0.1 (by omega),eX h1.1 (by omega),j9 (by omega) (by omega)] at this;exact this
theorem Fv (h0:0≤a∧a≤9223372036854775807) (h1:0≤b∧b≤9223372036854775807):bP P .and t x y (.int .i64 a) (.int .i64 b) (.int .i64 ((a.toNat &&& b.toNat:Nat):Int)):=by
 have:=Fo (P:=P) (t:=t) (x:=x) (y:=y) (k:=.i64) (a:=a) (b:=b);have e1:IntKind.i64.bits=64:=rfl;have e2:(a.toNat &&& b.toNat)<2 ^ 63:=Nat.lt_of_le_of_lt Nat.and_le_left (by omega);rw [e1,BitVec.toNat_and,eX h0.1 (by omega),eX h1.1 (by omega),j9 (by omega) (by omega)] at this;exact this
theorem oE (m:Nat) (h:m<256):IntKind.u8.wrap (m:Int)=m:=by
 rw [wE,bV];omega
theorem CR {p q:UInt8}:bP P .xor t x y (.int .u8 p.toNat) (.int .u8 q.toNat) (.int .u8 (p ^^^ q).toNat):=by
 have:=F9 (P:=P) (t:=t) (x:=x) (y:=y) (k:=.u8) (a:=p.toNat) (b:=q.toNat);have e1:IntKind.u8.bits=8:=rfl;have h1:=p.toNat_lt;have h2:=q.toNat_lt;rw [e1,BitVec.toNat_xor,eX (by omega) (by omega),eX (by omega) (by omega)] at this;simp only [Int.toNat_natCast] at this;rw [oE _ (Nat.xor_lt_two_pow (n:=8) h1 h2),← UInt8.toNat_xor] at this;exact this
end bin
theorem Ez (ty:Array TypeId) {x y:Operand} {a b:Int} {k:IntKind} (ho:o.op=.call { callee:=.builtin .min,args:=#[x,y],argTypes:=ty }) (hx:s.ev x=.v (.int k a)) (hy:s.ev y=.v (.int k b))
 (hdd:o.dst=d) (hd:d.all (Nat.blt · n)=true):OpOk P n o s (s.put d (.v (.int k (min a b)))):=
 .val hdd hd fun Λ w φ ac hs=>⟨.int k (min a b),by
  have e:(if b<a then b else a)=min a b:=by omega
  simp [execOp,ho,resolve,invoke,builtin,cc hs hx,cc hs hy,Builtin.min_,Builtin.min2,e],.v⟩
theorem EA (ty:Array TypeId) {x y:Operand} {a b:Int} {k:IntKind} (ho:o.op=.call { callee:=.builtin .max,args:=#[x,y],argTypes:=ty }) (hx:s.ev x=.v (.int k a)) (hy:s.ev y=.v (.int k b))
 (hdd:o.dst=d) (hd:d.all (Nat.blt · n)=true):OpOk P n o s (s.put d (.v (.int k (max a b)))):=
 .val hdd hd fun Λ w φ ac hs=>⟨.int k (max a b),by
  have e:(if b > a then b else a)=max a b:=by omega
  simp [execOp,ho,resolve,invoke,builtin,cc hs hx,cc hs hy,Builtin.max_,Builtin.max2,e],.v⟩
end
section
variable {P:Program} {n:Nat} {Q:bB} {s:AS} {ops:Array Oper}
def over (s:AS) (rt rh:List Nat) (s0:AS):AS:=⟨fun t=>bif rt.contains t then s.t t else s0.t t,fun k=>bif rh.contains k then s.h k else s0.h k⟩
theorem wV {s s':AS} {rt rh:List Nat} (h1:∀ t∈rt,s'.t t=s.t t) (h2:∀ k∈rh,s'.h k=s.h k):over s rt rh s'=s':=by
 unfold over;cases s' with
 | mk t h=>
  congr 1
  · funext i
    cases hb:rt.contains i with
    | false=>rfl
    | true=>exact (h1 i (by simpa using hb)).symm
  · funext i
    cases hb:rh.contains i with
    | false=>rfl
    | true=>exact (h2 i (by simpa using hb)).symm
theorem DS.ok_over {e:DS} (h:∀ s0,OpAt P n ops e.i (over s e.rt e.rh s0) (e.upd (over s e.rt e.rh s0))):e.Ok P n ops s:=fun s' h1 h2=>by
 have:=h s'
 rwa [wV h1 h2] at this
def DS.strip (e:DS):DS:={ e with x:=.any,wh:=e.wh.map fun p=>(p.1,.box []) }
theorem zh (e:DS):e.strip.wf=e.wf:=by
 obtain ⟨i,rt,rh,d,x,wh⟩:=e;simp only [DS.strip,DS.wf,List.all_map];rfl
theorem u3 (a b:DS):eA a.strip b.strip=eA a b:=by
 obtain ⟨i,rt,rh,d,x,wh⟩:=a;obtain ⟨i',rt',rh',d',x',wh'⟩:=b;simp only [DS.strip,eA,List.all_map];rfl
theorem ng (es:List DS):ep ops (es.map DS.strip)=ep ops es:=by
 unfold ep;congr 1
 · congr 1
   · congr 1
     · simp
     · rw [List.zipIdx_map,List.all_map]
       congr 1
       funext p
       obtain ⟨e,k⟩:=p;show (Nat.beq e.strip.i k&&e.strip.wf)=_;rw [zh];rfl
 · simp only [List.length_map]
   congr 1
   funext b
   congr 1
   funext a
   simp only [List.getElem?_map];cases es[a]? with
   | none=>rfl
   | some x=>
    cases es[b]? with
    | none=>rfl
    | some y=>simp only [Option.map_some,u3]
theorem AWp.draws {id:Nat} {s:AS} (es ks:List DS) (hmix:P.follows .mixedOrders=true) (hk:es.map DS.strip=ks) (hok:ep ops ks=true) (hgood:Good P n ops es s) (hQ:Q .normal (cS es s)) :
 AWp P n (.region id ops true) Q s:=AWp.draw es hmix (by rw [← ng,hk];exact hok) hgood hQ
theorem OpOk.dec_t {o:Oper} {d:Option Tmp} {p:Prop} {hp:Decidable p} (h:OpOk P n o s (s.put d (tf (decide p)))) (hx:p):OpOk P n o s (s.put d (tf true)):=by
 rwa [decide_eq_true hx] at h
theorem OpOk.dec_f {o:Oper} {d:Option Tmp} {p:Prop} {hp:Decidable p} (h:OpOk P n o s (s.put d (tf (decide p)))) (hx:¬ p):OpOk P n o s (s.put d (tf false)):=by
 rwa [decide_eq_false hx] at h
theorem OpOk.bool_is {o:Oper} {d:Option Tmp} {b c:Bool} (h:OpOk P n o s (s.put d (tf b))) (hx:b=c):OpOk P n o s (s.put d (tf c)):=by
 rwa [hx] at h
theorem OpOk.to {o:Oper} {d:Option Tmp} {x y:AV} (h:OpOk P n o s (s.put d x)) (hx:x=y):OpOk P n o s (s.put d y):=hx▸h
theorem nF {b:Bool} {p:Prop} {hp:Decidable p} (h:b=true↔p):bX [tf b]=tf (decide p):=by
 show tf b=tf (decide p);congr 2;rw [Bool.eq_iff_iff,h,decide_eq_true_iff]
end
abbrev IdMap:=List (Nat×Nat)
def IdMap.get:IdMap→Nat→Option Nat
 | [],_=>none
 | (c,k)::r,i=>bif Nat.beq i c then some k else IdMap.get r i
def IdMap.inv:IdMap→Nat→Option Nat
 | [],_=>none
 | (c,k)::r,i=>bif Nat.beq i k then some c else IdMap.inv r i
def IdMap.has (σ:IdMap) (c:Nat):Bool:=(σ.get c).isSome
def IdMap.wf:IdMap→Bool
 | []=>true
 | (c,k)::r=>(IdMap.get r c).isNone&&(IdMap.inv r k).isNone&&IdMap.wf r
theorem IdMap.inv_of_get:∀ {σ:IdMap} {c k:Nat},σ.wf=true→σ.get c=some k→σ.inv k=some c
 | [],c,k,_,h=>by cases h
 | (c',k')::r,c,k,hw,h=>by
  simp only [IdMap.wf,Bool.and_eq_true] at hw;simp only [IdMap.get] at h;simp only [IdMap.inv];cases hb:Nat.beq c c' with
  | true=>
   rw [hb] at h;cases h;have:=Nat.eq_of_beq_eq_true hb;subst this;have:Nat.beq k' k'=true:=by simp
   rw [this];rfl
  | false=>
   rw [hb] at h;have h2:=IdMap.inv_of_get hw.2 h;cases hb2:Nat.beq k k' with
   | true=>
    have:=Nat.eq_of_beq_eq_true hb2;subst this;rw [h2] at hw;simp at hw
   | false=>exact h2
theorem IdMap.get_of_inv:∀ {σ:IdMap} {c k:Nat},σ.wf=true→σ.inv k=some c→σ.get c=some k
 | [],c,k,_,h=>by cases h
 | (c',k')::r,c,k,hw,h=>by
  simp only [IdMap.wf,Bool.and_eq_true] at hw;simp only [IdMap.inv] at h;simp only [IdMap.get];cases hb:Nat.beq k k' with
  | true=>
   rw [hb] at h;cases h;have:=Nat.eq_of_beq_eq_true hb;subst this;have:Nat.beq c' c'=true:=by simp
   rw [this];rfl
  | false=>
   rw [hb] at h;have h2:=IdMap.get_of_inv hw.2 h;cases hb2:Nat.beq c c' with
   | true=>
    have:=Nat.eq_of_beq_eq_true hb2;subst this;rw [h2] at hw;simp at hw
   | false=>exact h2
def Loc.re (b:Bool) (l:Loc):Loc:=bif b then ⟨l.bo,0⟩ else l
def ie (ρ:Nat→Bool) (σ:IdMap) (h:aX) (lo hi:Nat) (a b:AV):Prop:=True→∀ (w:World) (φ φc:aD) (Λ Λ':aW) (v:Value),HSim w φ Λ h→
 (∀ l b,l≤lo→b<w.heap.size→may φ Λ l b→may φc Λ' l b)→(∀ id l b o,φ id=some l→l.bo=some (b,o)→σ.inv id=none→may φc Λ' hi b)→
 (∀ c k,σ.get c=some k→φc c=(φ k).map (Loc.re (ρ c)))→Rep w φ Λ a v→Rep w φc Λ' b v
section
variable {ρ:Nat→Bool} {σ:IdMap} {h:aX} {lo hi:Nat}
theorem aK {a:AV} (e:a.ok lo=true):ie ρ σ h lo hi a a:=fun _ _ _ _ _ _ _ _ hm _ _ hr=>hr.move (lv:=lo) hm e
theorem EJ {l k:Nat}:ie ρ σ h lo hi (.v (.slice none 0 k)) (.fz l 0 []):=fun _ _ _ _ _ _ _ _ _ _ _ hr=>by
 cases hr;exact .fz0
theorem qb {φ φc:aD} {c k:Nat} {b:Bool} (hb:b=false) (h:φc c=(φ k).map (Loc.re b)):φc c=φ k:=by
 subst hb;rw [h];cases φ k<;>rfl
theorem aV {c k ver off:Nat} (e:σ.get c=some k) (hρ:ρ c=false:=by rfl):ie ρ σ h lo hi (.ptr k ver off) (.ptr c ver off):=fun _ _ _ _ _ _ _ _ _ _ hσ hr=>by
 have:=qb hρ (hσ c k e);cases hr with
 | ptr h1 h2 h3=>exact .ptr (this.trans h1) h2 h3
 | ptrx h1 h2=>exact .ptrx (this.trans h1) h2
theorem bd {c k ver off len esz:Nat} (e:σ.get c=some k) (hρ:ρ c=false:=by rfl):ie ρ σ h lo hi (.sl k ver off len esz) (.sl c ver off len esz):=fun _ _ _ _ _ _ _ _ _ _ hσ hr=>by
 have:=qb hρ (hσ c k e);cases hr with
 | sl h1 h2 h3 h4 h5 h6=>exact .sl (this.trans h1) h2 h3 h4 h5 h6
 | sl0 h1 h2=>exact .sl0 (this.trans h1) h2
 | slx h1 h2 h3=>exact .slx (this.trans h1) h2 h3
theorem bw {c k ver:Nat} (e:σ.get c=some k) (hρ:ρ c=false:=by rfl):ie ρ σ h lo hi (.mp k ver) (.mp c ver):=fun _ _ _ _ _ _ _ _ _ _ hσ hr=>by
 have:=qb hρ (hσ c k e);cases hr with
 | mp h1 h2 h3=>exact .mp (this.trans h1) h2 h3
 | mpx h1 h2=>exact .mpx (this.trans h1) h2
theorem EH {c k ver off len esz:Nat} {ob:AObj} {cells:List AV} (e:σ.get c=some k) (ho:h k=some ob) (hc:ob.at ver=some cells) (hρ:ρ c=true:=by rfl):ie ρ σ h lo hi (.sl k ver off len esz) (.sl c 0 off len esz):=
 fun _ _ _ _ _ _ _ hs _ _ hσ hr=>by
 have hq:=hσ c k e;rw [hρ] at hq;obtain ⟨l0,g1,g2⟩:=hs.ver ho hc;rw [g1] at hq;cases hr with
 | sl h1 h2 h3 h4 h5 h6=>rw [g1] at h1;cases h1;exact .sl hq rfl h3 h4 h5 h6
 | sl0 h1 h2=>exact .sl0 hq rfl
 | slx h1 h2 h3=>rw [g1] at h1;cases h1;omega
theorem EI {id ver off len esz:Nat} {ob:AObj} {cells cs:List AV} (hi':σ.inv id=none) (h1:h id=some ob) (h2:ob.at ver=some cells) (h3:AV.oks (min lo hi) cells=true) (h4:off+len*esz≤cells.length) (h5:0<esz)
 (h6:(cells.drop off).take (len*esz)=cs):ie ρ σ h lo hi (.sl id ver off len esz) (.fz hi len cs):=by
 intro hle w φ φc Λ Λ' v hs hm hown _ hr;subst h6;have h3':=AV.oks_iff.1 h3;have hlen:((cells.drop off).take (len*esz)).length=len*esz:=by simp;omega
 by_cases hz:len*esz=0
 · have hnil:(cells.drop off).take (len*esz)=[]:=by rw [hz];simp
   rw [hnil];obtain ⟨ad,cap,rfl⟩:=ij hr rfl;have hl0:len=0:=by
    rcases Nat.mul_eq_zero.1 hz with h6|h6
    · exact h6
    · omega
   subst hl0;exact .fz0
 · obtain ⟨l0,b0,oo0,arr,T,lo',hi'',g1,g2,g3,g4,g5,g6,g7⟩:=hs.at h1 h2 (by omega)
   cases hr with
   | slx e1 e2=>rw [g1] at e1;cases e1;omega
   | sl0 e1 e2=>simp at hz
   | sl e1 e2 e3 e4 e5 e6=>
    rw [g1] at e1;cases e1;rw [g3] at e3;cases e3;refine .fz (fun j=>arr.getD (oo0+off+j) undef) (hown id _ b0 _ g1 g3 hi') e6 (fun c hc=>AV.ok_mono (Nat.min_le_right lo hi) (h3' c (List.mem_of_mem_drop (List.mem_of_mem_take hc)))) (fun j hj=>?_) (fun j c hj=>?_) (by omega)
    · have:oo0+off+j<arr.size:=by omega
      simp [World.cell?,g4,Array.getD,this]
    · rw [List.getElem?_take] at hj
      split at hj
      · rw [List.getElem?_drop] at hj
        obtain ⟨u,q1,q2⟩:=g7 _ c hj;rw [← Nat.add_assoc] at q1;rw [Array.getD_eq_getD_getElem?,q1];exact q2.move hm (AV.ok_mono (Nat.min_le_left lo hi) (h3' c (List.mem_of_getElem? hj)))
      · cases hj
def LVals (ρ:Nat→Bool) (σ:IdMap) (h:aX) (lo hi:Nat):List AV→List AV→Prop
 | [],[]=>True
 | a::l,b::m=>ie ρ σ h lo hi a b∧LVals ρ σ h lo hi l m
 | _,_=>False
theorem LVals.length:∀ {l m:List AV},LVals ρ σ h lo hi l m→l.length=m.length
 | [],[],_=>rfl
 | a::l,b::m,e=>by simp [LVals.length e.2]
 | [],_::_,e=>e.elim
 | _::_,[],e=>e.elim
theorem LVals.get:∀ {l m:List AV},LVals ρ σ h lo hi l m→∀ (j:Nat) b,m[j]?=some b→∃ a,l[j]?=some a∧ie ρ σ h lo hi a b
 | [],[],_,j,b,hj=>by simp at hj
 | a::l,b::m,e,0,c,hj=>by simp at hj;subst hj;exact ⟨a,rfl,e.1⟩
 | a::l,b::m,e,j+1,c,hj=>by simpa using LVals.get e.2 j c (by simpa using hj)
 | [],_::_,e,_,_,_=>e.elim
 | _::_,[],e,_,_,_=>e.elim
theorem wb:∀ {l:List AV},AV.oks lo l=true→LVals ρ σ h lo hi l l
 | [],_=>trivial
 | a::l,e=>by
  simp only [AV.oks,Bool.and_eq_true] at e;exact ⟨aK e.1,wb e.2⟩
theorem EK {l m:List AV} (e:LVals ρ σ h lo hi l m):ie ρ σ h lo hi (.agg l) (.agg m):=by
 intro hle w φ φc Λ Λ' v hs hm hown hσ hr;cases hr with
 | agg vf h1 h2 h3=>
  refine .agg vf (by rw [h1,e.length]) (fun j hj=>h2 j (by rw [e.length];exact hj)) (fun j c hj=>?_);obtain ⟨a,h4,h5⟩:=e.get j c hj;exact h5 hle w φ φc Λ Λ' _ hs hm hown hσ (h3 j a h4)
theorem Gu {f:Fn} {a b a' b':List AV} (e:LVals ρ σ h lo hi a a') (e2:LVals ρ σ h lo hi b b'):ie ρ σ h lo hi (.fn f a b) (.fn f a' b'):=by
 intro hle w φ φc Λ Λ' v hs hm hown hσ hr;cases hr with
 | fn vf wf h1 h2 h3 h4 h5 h6=>
  refine .fn vf wf (by rw [h1,e.length]) (fun j hj=>h2 j (by rw [e.length];exact hj)) (fun j c hj=>?_) (by rw [h4,e2.length]) (fun j hj=>h5 j (by rw [e2.length];exact hj)) (fun j c hj=>?_)
  · obtain ⟨x,k1,k2⟩:=e.get j c hj
    exact k2 hle w φ φc Λ Λ' _ hs hm hown hσ (h3 j x k1)
  · obtain ⟨x,k1,k2⟩:=e2.get j c hj
    exact k2 hle w φ φc Λ Λ' _ hs hm hown hσ (h6 j x k1)
def LObj (ρ:Nat→Bool) (σ:IdMap) (h:aX) (lo hi:Nat) (rn:Bool):AObj→AObj→Prop
 | .gbox ty cs,.gbox ty' cs'=>ty=ty'∧LVals ρ σ h lo hi cs cs'
 | .grow ty cs e v,.grow ty' cs' e' v'=>(e=e'∧ty=ty')∧(bif rn then v'=0 else v=v')∧LVals ρ σ h lo hi cs cs'
 | .map es,.map es'=>es.map (·.1)=es'.map (·.1)∧LVals ρ σ h lo hi (es.map (·.2)) (es'.map (·.2))
 | _,_=>False
end
mutual
def AV.ren (τ:Nat→Nat):AV→AV
 | .ptr id vr o=>.ptr (τ id) vr o
 | .sl id vr o l e=>.sl (τ id) vr o l e
 | .mp id vr=>.mp (τ id) vr
 | .dp id vr o l=>.dp (τ id) vr o l
 | .agg cs=>.agg (AV.rens τ cs)
 | .tup cs=>.tup (AV.rens τ cs)
 | .fn f a b=>.fn f (AV.rens τ a) (AV.rens τ b)
 | .ifc t x=>.ifc t (x.ren τ)
 | .p D x=>.p D (x.ren τ)
 | x=>x
def AV.rens (τ:Nat→Nat):List AV→List AV
 | []=>[]
 | c::cs=>c.ren τ::AV.rens τ cs
end
mutual
def AV.lev (lv:Nat):AV→Bool
 | .v _|.any|.bl|.ptr ..|.sl ..|.mp ..|.dp ..=>true
 | .fz l _ _|.fp l _=>Nat.ble l lv
 | .agg cs|.tup cs=>AV.levs lv cs
 | .fn _ a b=>AV.levs lv a&&AV.levs lv b
 | .ifc _ x=>x.lev lv
 | .p _ x=>x.lev lv
def AV.levs (lv:Nat):List AV→Bool
 | []=>true
 | c::cs=>c.lev lv&&AV.levs lv cs
end
theorem AV.levs_iff {lv:Nat}:∀ {l:List AV},AV.levs lv l=true↔∀ c∈l,c.lev lv=true
 | []=>by simp [AV.levs]
 | c::cs=>by simp [AV.levs,AV.levs_iff (l:=cs)]
theorem AV.rens_eq {τ:Nat→Nat}:∀ {l:List AV},AV.rens τ l=l.map (AV.ren τ)
 | []=>rfl
 | c::cs=>by simp [AV.rens,AV.rens_eq (l:=cs)]
theorem Rep.ren {w:World} {φ φn:aD} {Λ Λn:aW} {lv:Nat} {S:Nat→Bool} {τ:Nat→Nat} (hm:∀ l b,l≤lv→b<w.heap.size→may φ Λ l b→may φn Λn l b) (hτ:∀ c l,S c=true→φ c=some l→φn (τ c)=some l)
 {x:AV} {v:Value} (h:Rep w φ Λ x v) (h1:x.lev lv=true) (h2:x.refs S=true):Rep w φn Λn (x.ren τ) v:=by
 induction h with
 | v=>exact .v
 | any=>exact .any
 | bl=>exact .bl
 | fz0=>exact .fz0
 | fz vf a b c d e f ih=>exact (Rep.fz vf a b c d e f).move (lv:=lv) hm h1
 | fp vf a c d e f ih=>exact (Rep.fp vf a c d e f).move (lv:=lv) hm h1
 | agg vf a b c ih=>
  simp only [AV.ren,AV.rens_eq];simp only [AV.lev] at h1;simp only [AV.refs] at h2;refine .agg vf (by rw [a,List.length_map]) (fun j hj=>b j (by simpa using hj)) (fun j y hj=>?_);rw [List.getElem?_map,Option.map_eq_some_iff] at hj;obtain ⟨z,hz,rfl⟩:=hj;exact ih j z hz (AV.levs_iff.1 h1 z (List.mem_of_getElem? hz)) (AV.refss_iff.1 h2 z (List.mem_of_getElem? hz))
 | tup vf a b c ih=>
  simp only [AV.ren,AV.rens_eq];simp only [AV.lev] at h1;simp only [AV.refs] at h2;refine .tup vf (by rw [a,List.length_map]) (fun j hj=>b j (by simpa using hj)) (fun j y hj=>?_);rw [List.getElem?_map,Option.map_eq_some_iff] at hj;obtain ⟨z,hz,rfl⟩:=hj;exact ih j z hz (AV.levs_iff.1 h1 z (List.mem_of_getElem? hz)) (AV.refss_iff.1 h2 z (List.mem_of_getElem? hz))
 | fn vf wf a b c d e f ih1 ih2=>
  simp only [AV.ren,AV.rens_eq];simp only [AV.lev,Bool.and_eq_true] at h1;simp only [AV.refs,Bool.and_eq_true] at h2;refine .fn vf wf (by rw [a,List.length_map]) (fun j hj=>b j (by simpa using hj)) (fun j y hj=>?_) (by rw [d,List.length_map]) (fun j hj=>e j (by simpa using hj)) (fun j y hj=>?_)
  · rw [List.getElem?_map,Option.map_eq_some_iff] at hj
    obtain ⟨z,hz,rfl⟩:=hj;exact ih1 j z hz (AV.levs_iff.1 h1.1 z (List.mem_of_getElem? hz)) (AV.refss_iff.1 h2.1 z (List.mem_of_getElem? hz))
  · rw [List.getElem?_map,Option.map_eq_some_iff] at hj
    obtain ⟨z,hz,rfl⟩:=hj;exact ih2 j z hz (AV.levs_iff.1 h1.2 z (List.mem_of_getElem? hz)) (AV.refss_iff.1 h2.2 z (List.mem_of_getElem? hz))
 | ifc h ih=>exact .ifc (ih (by simpa [AV.lev] using h1) (by simpa [AV.refs] using h2))
 | p a b h ih=>exact .p a b (ih (by simpa [AV.lev] using h1) (by simpa [AV.refs] using h2))
 | ptr a b c=>exact .ptr (hτ _ _ h2 a) b c
 | ptrx a b=>exact .ptrx (hτ _ _ h2 a) b
 | sl a b c d e f=>exact .sl (hτ _ _ h2 a) b c d e f
 | sl0 a b=>exact .sl0 (hτ _ _ h2 a) b
 | slx a b c=>exact .slx (hτ _ _ h2 a) b c
 | mp a b c=>exact .mp (hτ _ _ h2 a) b c
 | dp a b c d e=>exact .dp (hτ _ _ h2 a) b c d e
 | dp0 a=>exact .dp0 (hτ _ _ h2 a)
 | dpx a b=>exact .dpx (hτ _ _ h2 a) b
 | mpx a b=>exact .mpx (hτ _ _ h2 a) b
def AObj.ren (τ:Nat→Nat):AObj→AObj
 | .gbox ty cs=>.gbox ty (AV.rens τ cs)
 | .grow ty cs e v=>.grow ty (AV.rens τ cs) e v
 | .map es=>.map (es.map fun p=>(p.1,p.2.ren τ))
def AObj.lev (lv:Nat):AObj→Bool
 | .gbox _ cs=>AV.levs lv cs
 | .grow _ cs _ _=>AV.levs lv cs
 | .map es=>AV.levs lv (es.map (·.2))
theorem ObjRep.ren {w:World} {φ φn:aD} {Λ Λn:aW} {lv:Nat} {S:Nat→Bool} {τ:Nat→Nat} (hm:∀ l b,l≤lv→b<w.heap.size→may φ Λ l b→may φn Λn l b) (hτ:∀ c l,S c=true→φ c=some l→φn (τ c)=some l)
 {ob:AObj} {l:Loc} (h:ObjRep w φ Λ ob l) (h1:ob.lev lv=true) (h2:ObjIn S ob):ObjRep w φn Λn (ob.ren τ) l:=by
 have cells:∀ {arr:Array Value} {o:Nat} {cs:List AV},CellsRep w φ Λ arr o cs→AV.levs lv cs=true→AV.refss S cs=true→CellsRep w φn Λn arr o (AV.rens τ cs):=by
  intro arr o cs hc e1 e2 j c hj;rw [AV.rens_eq,List.getElem?_map,Option.map_eq_some_iff] at hj;obtain ⟨z,hz,rfl⟩:=hj;obtain ⟨v,g1,g2⟩:=hc j z hz;exact ⟨v,g1,g2.ren hm hτ (AV.levs_iff.1 e1 z (List.mem_of_getElem? hz)) (AV.refss_iff.1 e2 z (List.mem_of_getElem? hz))⟩
 cases ob with
 | gbox ty cs=>
  obtain ⟨b,arr,T,g1,g2,g3,g4,g5⟩:=h;exact ⟨b,arr,T,g1,g2,g3,by rw [g4,AV.rens_eq,List.length_map],cells g5 h1 h2⟩
 | grow ty cs e v=>
  obtain ⟨g0,g⟩:=h;refine ⟨g0,?_⟩;rcases g with ⟨g1,g2⟩|⟨b,o,arr,T,lo,hi,g1,g2,g3,g4,g5⟩
  · exact .inl ⟨g1,by rw [g2];rfl⟩
  · exact .inr ⟨b,o,arr,T,lo,hi,g1,g2,g3,by rw [AV.rens_eq,List.length_map];exact g4,cells g5 h1 h2⟩
 | map es=>
  obtain ⟨b,ents,clock,g1,g2,g3,g4,g5⟩:=h;refine ⟨b,ents,clock,g1,g2,g3,by rw [g4,List.length_map],fun j p hp=>?_⟩;rw [List.getElem?_map,Option.map_eq_some_iff] at hp;obtain ⟨q,hq,rfl⟩:=hp;obtain ⟨e,k1,k2,k3⟩:=g5 j q hq;simp only [AObj.lev] at h1;exact ⟨e,k1,k2,k3.ren hm hτ (AV.levs_iff.1 h1 q.2 (List.mem_map_of_mem (List.mem_of_getElem? hq))) (h2 q (List.mem_of_getElem? hq))⟩
def IdMap.to (τ:IdMap) (c:Nat):Nat:=(τ.get c).getD 0
def BObjs (ρ:Nat→Bool) (σ:IdMap) (h:aX) (lo hi:Nat):IdMap→List (Nat×AObj)→Prop
 | [],[]=>True
 | (c,k)::r,(c',ob')::q=>c=c'∧(∃ ob,h k=some ob∧LObj ρ σ h lo hi (ρ c) ob ob')∧BObjs ρ σ h lo hi r q
 | _,_=>False
theorem BObjs.none {ρ:Nat→Bool} {σ:IdMap} {h:aX} {lo hi:Nat}:∀ {r:IdMap} {q:List (Nat×AObj)},BObjs ρ σ h lo hi r q→∀ {c:Nat},ao q c=none→r.get c=none
 | [],[],_,c,_=>rfl
 | (c,k)::r,(c',ob')::q,e,i,hi=>by
  obtain ⟨rfl,_,e3⟩:=e;simp only [ao] at hi;simp only [IdMap.get];cases hb:Nat.beq i c with
  | true=>rw [hb] at hi;cases hi
  | false=>rw [hb] at hi;exact BObjs.none e3 hi
 | [],_::_,e,_,_=>e.elim
 | _::_,[],e,_,_=>e.elim
theorem BObjs.some {ρ:Nat→Bool} {σ:IdMap} {h:aX} {lo hi:Nat}:∀ {r:IdMap} {q:List (Nat×AObj)},BObjs ρ σ h lo hi r q→∀ {c:Nat} {ob':AObj},ao q c=some ob'→∃ k ob,r.get c=some k∧h k=some ob∧LObj ρ σ h lo hi (ρ c) ob ob'
 | [],[],_,c,ob',hq=>by cases hq
 | (c,k)::r,(c',ob1)::q,e,i,ob',hq=>by
  obtain ⟨rfl,⟨ob,e1,e2⟩,e3⟩:=e;simp only [ao] at hq;simp only [IdMap.get];cases hb:Nat.beq i c with
  | true=>rw [hb] at hq;cases hq;exact ⟨k,ob,rfl,e1,(Nat.eq_of_beq_eq_true hb)▸e2⟩
  | false=>rw [hb] at hq;exact BObjs.some e3 hq
 | [],_::_,e,_,_,_=>e.elim
 | _::_,[],e,_,_,_=>e.elim
theorem LVals.cells {ρ:Nat→Bool} {σ:IdMap} {h:aX} {lo hi:Nat} {w:World} {φ φc:aD} {Λ Λ':aW} (hle:True) (hs:HSim w φ Λ h)
 (hm:∀ l b,l≤lo→b<w.heap.size→may φ Λ l b→may φc Λ' l b) (hown:∀ id l b o,φ id=some l→l.bo=some (b,o)→σ.inv id=none→may φc Λ' hi b) (hσ:∀ c k,σ.get c=some k→φc c=(φ k).map (Loc.re (ρ c)))
 {cs cs':List AV} (e:LVals ρ σ h lo hi cs cs') {arr:Array Value} {o:Nat} (hc:CellsRep w φ Λ arr o cs):CellsRep w φc Λ' arr o cs':=fun j c hj=>by
 obtain ⟨a,h1,h2⟩:=e.get j c hj;obtain ⟨v,h3,h4⟩:=hc j a h1;exact ⟨v,h3,h2 hle w φ φc Λ Λ' v hs hm hown hσ h4⟩
theorem LObj.rep {ρ:Nat→Bool} {σ:IdMap} {h:aX} {lo hi:Nat} {w:World} {φ φc:aD} {Λ Λ':aW} (hle:True) (hs:HSim w φ Λ h)
 (hm:∀ l b,l≤lo→b<w.heap.size→may φ Λ l b→may φc Λ' l b) (hown:∀ id l b o,φ id=some l→l.bo=some (b,o)→σ.inv id=none→may φc Λ' hi b) (hσ:∀ c k,σ.get c=some k→φc c=(φ k).map (Loc.re (ρ c)))
 {ob ob':AObj} {rn:Bool} (e:LObj ρ σ h lo hi rn ob ob') {l:Loc} (ho:ObjRep w φ Λ ob l):ObjRep w φc Λ' ob' (l.re rn):=by
 cases ob with
 | gbox ty cs=>
  cases ob' with
  | gbox ty' cs'=>
   obtain ⟨rfl,e⟩:=e;obtain ⟨b,arr,T,g1,g2,g3,g4,g5⟩:=ho;exact ⟨b,arr,T,by cases rn<;>exact g1,by cases rn<;>first|exact g2|rfl,g3,by rw [g4];exact LVals.length e,LVals.cells hle hs hm hown hσ e g5⟩
  | grow=>exact e.elim
  | map=>exact e.elim
 | grow ty cs es v=>
  cases ob' with
  | grow ty' cs' es' v'=>
   obtain ⟨⟨rfl,rfl⟩,ev,e⟩:=e;obtain ⟨g0,g⟩:=ho;have hbo:(l.re rn).bo=l.bo:=by cases rn<;>rfl
   refine ⟨by cases rn<;>simp only [cond_true,cond_false] at ev<;>subst ev<;>first|exact g0|rfl,?_⟩;rw [hbo];rcases g with ⟨g1,g2⟩|⟨b,o,arr,T,lo',hi',g1,g2,g3,g4,g5⟩
   · refine .inl ⟨g1,?_⟩
     subst g2;exact List.eq_nil_of_length_eq_zero e.length.symm
   · exact .inr ⟨b,o,arr,T,lo',hi',g1,g2,g3,by rw [← e.length];exact g4,LVals.cells hle hs hm hown hσ e g5⟩
  | gbox=>exact e.elim
  | map=>exact e.elim
 | map es=>
  cases ob' with
  | map es'=>
   obtain ⟨e1,e2⟩:=e;obtain ⟨b,ents,clock,g1,g2,g3,g4,g5⟩:=ho;have hl:es.length=es'.length:=by simpa using congrArg List.length e1
   refine ⟨b,ents,clock,by cases rn<;>exact g1,by cases rn<;>first|exact g2|rfl,g3,by rw [g4,hl],fun j p hp=>?_⟩;obtain ⟨a,h1,h2⟩:=e2.get j p.2 (by rw [List.getElem?_map,hp];rfl);rw [List.getElem?_map,Option.map_eq_some_iff] at h1;obtain ⟨q,hq,rfl⟩:=h1;obtain ⟨en,k1,k2,k3⟩:=g5 j q hq;have hk:q.1=p.1:=by
    have:=congrArg (fun l=>l[j]?) e1;simp only [List.getElem?_map,hq,hp,Option.map_some,Option.some.injEq] at this;exact this
   exact ⟨en,k1,by rw [k2,hk],h2 hle w φ φc Λ Λ' _ hs hm hown hσ k3⟩
  | gbox=>exact e.elim
  | grow=>exact e.elim
def eE (τ:IdMap) (h h':aX):aX:=fun k=>match τ.inv k with
 | some c=>(h' c).map (AObj.ren τ.to)
 | none=>h k
structure HBack (σ τ:IdMap) (lv:Nat) (h h':aX):Prop where
 wf:τ.wf=true
 ext:∀ c k,σ.get c=some k→τ.get c=some k
 new:∀ c k,τ.get c=some k→σ.get c=none→h k=none
 all:∀ c ob,h' c=some ob→τ.has c=true∧ob.lev lv=true∧ObjIn τ.has ob
section rules
variable {P:Program} {n:Nat} {Q:bB} {s:AS} {o:Oper} {d:Option Tmp}
theorem OpX.callB {K:AS→Prop} {fop:Operand} {argops:Array Operand} {tys:Array TypeId} {f:FuncId} {first caps A:List AV} {R:AEnd→aX→Prop} (lv:Nat) (σ:IdMap) (hb:List (Nat×AObj))
 (ho:o.op=.call { callee:=.value fop,args:=argops,argTypes:=tys }) (hf:s.ev fop=.fn (.func f) first caps) (hwf:σ.wf=true) (h8:∀ c,σ.has c=true→c<8)
 (hobj:BObjs (fun _=>false) σ s.h lv (lv+1) σ hb) (hA:LVals (fun _=>false) σ s.h lv (lv+1) (first++argops.toList.map s.ev++caps) A) (hc:AC P f A (ao hb) R) (hdd:o.dst=d) (hd:d.all (Nat.blt · n)=true)
 (hret:∀ r h',R (.ret r) h'→∃ τ:IdMap,HBack σ τ lv s.h h'∧r.lev lv=true∧r.refs τ.has=true∧K (AS.put ⟨s.t,eE τ s.h h'⟩ d (r.ren τ.to)))
 (hpan:∀ x h',R (.panic x) h'→∃ τ:IdMap,HBack σ τ lv s.h h'∧Q (.panic x) ⟨s.t,eE τ s.h h'⟩):OpX P n o Q s K:=by
 intro Λ w φ a hs next QQ hN hP;subst hdd;obtain ⟨⟨fn,c,hbd⟩,hcall⟩:=hc
 let own':Nat→Prop:=fun b=>∃ id l oo,φ id=some l∧l.bo=some (b,oo)∧σ.inv id=none
 let Λ':aW:=fun k b=>Λ k b∨(k=lv+1∧own' b)
 let φc:aD:=fun c=>match σ.get c with|some k=>φ k|none=>none
 have hσ0:∀ c k,σ.get c=some k→φc c=φ k:=fun c k e=>by simp only [φc,e]
 have hσ:∀ c k,σ.get c=some k→φc c=(φ k).map (Loc.re false):=fun c k e=>by
  rw [hσ0 c k e];cases φ k<;>rfl
 have φc_some:∀ c l,φc c=some l→∃ k,σ.get c=some k∧φ k=some l:=fun c l e=>by
  simp only [φc] at e;cases hg:σ.get c with
  | none=>rw [hg] at e;cases e
  | some k=>rw [hg] at e;exact ⟨k,rfl,e⟩
 have ownc:∀ b,bp φc b→bp φ b:=fun b ⟨c,l,oo,e1,e2⟩=>by
  obtain ⟨k,_,e3⟩:=φc_some c l e1;exact ⟨k,l,oo,e3,e2⟩
 have own'φ:∀ b,own' b→bp φ b:=fun b ⟨id,l,oo,e1,e2,_⟩=>⟨id,l,oo,e1,e2⟩
 have apart:∀ b,bp φc b→¬ own' b:=fun b ⟨c,l,oo,e1,e2⟩ ⟨id,l2,oo2,e3,e4,e5⟩=>by
  obtain ⟨k,g1,g2⟩:=φc_some c l e1;have:=hs.hs.inj k id l l2 b oo oo2 g2 e3 e2 e4;subst this;rw [IdMap.inv_of_get hwf g1] at e5;cases e5
 have hm:∀ l b,l≤lv→b<w.heap.size→may φ Λ l b→may φc Λ' l b:=fun l b hl _ h=>⟨fun h1=>h.1 (ownc b h1),fun k hk h1=>by
  rcases h1 with h1|⟨_,h1⟩
  · exact h.2 k hk h1
  · exact h.1 (own'φ b h1)⟩
 have hown:∀ id l b oo,φ id=some l→l.bo=some (b,oo)→σ.inv id=none→may φc Λ' (lv+1) b:=fun id l b oo e1 e2 e3=>⟨fun h1=>apart b h1 ⟨id,l,oo,e1,e2,e3⟩,fun k hk h1=>by
  rcases h1 with h1|⟨h1,_⟩
  · exact (hs.hs.lt _ _ _ _ e1 e2).2 k h1
  · omega⟩
 have hle:True:=trivial;have hs0:HSim w φc Λ' (ao hb):=by
  refine ⟨fun c ob' h=>?_,fun c h=>?_,fun c l b oo h1 h2=>?_,fun c c' l l' b oo oo' h1 h2 h3 h4=>?_,fun k b h=>?_⟩
  · obtain ⟨k,ob,e1,e2,e3⟩:=hobj.some h
    obtain ⟨l,e4,e5⟩:=hs.hs.heap k ob e2;exact ⟨l,(hσ0 c k e1).trans e4,e3.rep (rn:=false) hle hs.hs hm hown hσ e5⟩
  · simp only [φc,hobj.none h]
  · obtain ⟨k,_,e2⟩:=φc_some c l h1
    obtain ⟨e3,e4⟩:=hs.hs.lt k l b oo e2 h2;refine ⟨e3,fun j hj=>?_⟩;rcases hj with hj|⟨_,hj⟩
    · exact e4 j hj
    · exact apart b ⟨c,l,oo,h1,h2⟩ hj
  · obtain ⟨k,e1,e2⟩:=φc_some c l h1
    obtain ⟨k',e3,e4⟩:=φc_some c' l' h2;have:=hs.hs.inj k k' l l' b oo oo' e2 e4 h3 h4;subst this;have g1:=IdMap.inv_of_get hwf e1;rw [IdMap.inv_of_get hwf e3] at g1;exact (Option.some.inj g1).symm
  · rcases h with h|⟨_,id,l,oo,g1,g2,_⟩
    · exact hs.hs.lent k b h
    · exact (hs.hs.lt _ _ _ _ g1 g2).1
 obtain ⟨fv,cv,hfv,hsz,hargs0⟩:=np hs hf;have hargs:eI w φc Λ' A (fv++argops.map a.eval++cv):=by
  refine ⟨by rw [hsz,hA.length],fun j b hj=>?_⟩;obtain ⟨x,h1,h2⟩:=hA.get j b hj;obtain ⟨v,h3,h4⟩:=hargs0 j x h1;exact ⟨v,h3,h2 hle w φ φc Λ Λ' v hs.hs hm hown hσ h4⟩
 unfold Oper.wp;rw [fQ hbd ho hfv];have back:∀ (τ:IdMap) h' w' φ',HBack σ τ lv s.h h'→HSim w' φ' Λ' h'→Goes w φc w' φ'→∃ φn,Goes w φ w' φn∧Stays w φ w' φn∧HSim w' φn Λ (eE τ s.h h')∧
  (∀ l b,l≤lv→b<w'.heap.size→may φ' Λ' l b→may φn Λ l b)∧(∀ c l,τ.has c=true→φ' c=some l→φn (τ.to c)=some l):=by
  intro τ h' w' φ' B hs' g
  let φn:aD:=fun k=>match τ.inv k with|some c=>φ' c|none=>φ k
  have n_some:∀ k c,τ.inv k=some c→φn k=φ' c:=fun k c e=>by simp only [φn,e]
  have n_none:∀ k,τ.inv k=none→φn k=φ k:=fun k e=>by simp only [φn,e]
  have inv_none:∀ k,τ.inv k=none→σ.inv k=none:=fun k e=>by
   cases hi:σ.inv k with
   | none=>rfl
   | some c=>
    have:=IdMap.inv_of_get B.wf (B.ext c k (IdMap.get_of_inv hwf hi));rw [e] at this;cases this
  have hkeep:∀ b,b<w.heap.size→¬ bp φc b→w'.heap[b]?=w.heap[b]?:=fun b hb h=>g.keep b hb h
  have apart2:∀ id l b oo,φ id=some l→l.bo=some (b,oo)→σ.inv id=none→¬ bp φc b:=fun id l b oo e1 e2 e3 h=>apart b h ⟨id,l,oo,e1,e2,e3⟩
  have st:Stays w φ w' φn:=by
   have key:∀ id l,φ id=some l→(∃ c,τ.inv id=some c∧σ.get c=some id)∨τ.inv id=none:=by
    intro id l h;cases hi:τ.inv id with
    | none=>exact .inr rfl
    | some c=>
     refine .inl ⟨c,rfl,?_⟩;have hg:=IdMap.get_of_inv B.wf hi;cases hs2:σ.get c with
     | some k=>
      have:=B.ext c k hs2;rw [hg] at this;exact this.symm
     | none=>
      have:=hs.hs.dom id (B.new c id hg hs2);rw [this] at h;cases h
   constructor
   · intro id l h
     rcases key id l h with ⟨c,e1,e2⟩|e1
     · obtain ⟨l',k1,k2,_⟩:=g.pin c l (h8 c (by simp [IdMap.has,e2])) ((hσ0 c id e2).trans h)
       exact ⟨l',(n_some id c e1).trans k1,k2⟩
     · exact ⟨l,(n_none id e1).trans h,.inl rfl⟩
   · intro id l h1 h2 b oo arr T m h3 h4
     rcases key id l h1 with ⟨c,e1,e2⟩|e1
     · obtain ⟨l',k1,k2,k3⟩:=g.pin c l (h8 c (by simp [IdMap.has,e2])) ((hσ0 c id e2).trans h1)
       rw [n_some id c e1,k1] at h2;cases h2;exact k3 rfl b oo arr T m h3 h4
     · have hb:=(hs.hs.lt id l b oo h1 h3).1
       rw [hkeep b hb (apart2 id l b oo h1 h3 (inv_none id e1))];exact ⟨arr,T,m,h4,Nat.le_refl _⟩
  have g2:Goes w φ w' φn:=by
   refine ⟨fun b hb hno=>hkeep b hb fun h=>hno (ownc b h),g.size,fun b hb=>?_,g.os,g.tape,g.output,st.pin,g.fro⟩;obtain ⟨k,l,oo,e1,e2⟩:=hb;cases hi:τ.inv k with
   | none=>rw [n_none k hi] at e1;exact .inl ⟨k,l,oo,e1,e2⟩
   | some c=>
    rw [n_some k c hi] at e1;exact (g.own b ⟨c,l,oo,e1,e2⟩).imp (ownc b) id
  have hm2:∀ l b,l≤lv→b<w'.heap.size→may φ' Λ' l b→may φn Λ l b:=fun l b hl _ h=>⟨fun h1=>by
   obtain ⟨k,l2,oo,e1,e2⟩:=h1;cases hi:τ.inv k with
   | some c=>rw [n_some k c hi] at e1;exact h.1 ⟨c,l2,oo,e1,e2⟩
   | none=>
    rw [n_none k hi] at e1;exact h.2 (lv+1) (by omega) (.inr ⟨rfl,k,l2,oo,e1,e2,inv_none k hi⟩),fun j hj h1=>h.2 j hj (.inl h1)⟩
  have hτ:∀ c l,τ.has c=true→φ' c=some l→φn (τ.to c)=some l:=fun c l h1 h2=>by
   obtain ⟨k,hk⟩:=Option.isSome_iff_exists.1 h1;have:τ.to c=k:=by simp [IdMap.to,hk]
   rw [this,n_some k c (IdMap.inv_of_get B.wf hk)];exact h2
  refine ⟨φn,g2,st,⟨fun k ob h=>?_,fun k h=>?_,fun k l b oo h1 h2=>?_,fun k k' l l' b oo oo' h1 h2 h3 h4=>?_,fun k b h=>Nat.lt_of_lt_of_le (hs.hs.lent k b h) g.size⟩,hm2,hτ⟩
  · unfold eE at h
    cases hi:τ.inv k with
    | some c=>
     rw [hi] at h;simp only [Option.map_eq_some_iff] at h;obtain ⟨ob',e1,rfl⟩:=h;obtain ⟨l,e2,e3⟩:=hs'.heap c ob' e1;obtain ⟨_,b2,b3⟩:=B.all c ob' e1;exact ⟨l,(n_some k c hi).trans e2,e3.ren hm2 hτ b2 b3⟩
    | none=>
     rw [hi] at h;obtain ⟨l,e1,e2⟩:=hs.hs.heap k ob h;refine ⟨l,(n_none k hi).trans e1,e2.goes g2 st fun b oo e3=>?_⟩;exact hkeep b (hs.hs.lt k l b oo e1 e3).1 (apart2 k l b oo e1 e3 (inv_none k hi))
  · unfold eE at h
    cases hi:τ.inv k with
    | some c=>
     rw [hi] at h;simp only [Option.map_eq_none_iff] at h;rw [n_some k c hi];exact hs'.dom c h
    | none=>
     rw [hi] at h;rw [n_none k hi];exact hs.hs.dom k h
  · cases hi:τ.inv k with
    | some c=>
     rw [n_some k c hi] at h1;obtain ⟨e1,e2⟩:=hs'.lt c l b oo h1 h2;exact ⟨e1,fun j hj=>e2 j (.inl hj)⟩
    | none=>
     rw [n_none k hi] at h1;obtain ⟨e1,e2⟩:=hs.hs.lt k l b oo h1 h2;exact ⟨Nat.lt_of_lt_of_le e1 g.size,e2⟩
  · have mixed:∀ k c k' l l' oo oo',τ.inv k=some c→τ.inv k'=none→φ' c=some l→φ k'=some l'→l.bo=some (b,oo)→l'.bo=some (b,oo')→False:=by
     intro k c k' l l' oo oo' e1 e2 e3 e4 e5 e6;rcases g.own b ⟨c,l,oo,e3,e5⟩ with h|h
     · exact apart2 k' l' b oo' e4 e6 (inv_none k' e2) h
     · have:=(hs.hs.lt k' l' b oo' e4 e6).1
       omega
    cases hi:τ.inv k with
    | some c=>
     rw [n_some k c hi] at h1;cases hi':τ.inv k' with
     | some c'=>
      rw [n_some k' c' hi'] at h2;have:=hs'.inj c c' l l' b oo oo' h1 h2 h3 h4;subst this;have e1:=IdMap.get_of_inv B.wf hi;rw [IdMap.get_of_inv B.wf hi'] at e1;exact (Option.some.inj e1).symm
     | none=>
      rw [n_none k' hi'] at h2;exact (mixed k c k' l l' oo oo' hi hi' h1 h2 h3 h4).elim
    | none=>
     rw [n_none k hi] at h1;cases hi':τ.inv k' with
     | some c'=>
      rw [n_some k' c' hi'] at h2;exact (mixed k' c' k l' l oo' oo hi' hi h2 h1 h4 h3).elim
     | none=>
      rw [n_none k' hi'] at h2;exact hs.hs.inj k k' l l' b oo oo' h1 h2 h3 h4
 refine Calls.mono (hcall Λ' w φc _ hs0 hargs (fun e w'=>match e with
  | .returned v=>next (a.put o.dst v) w'
  | .panicked chain=>QQ (.panic chain) a w'
  | .outgrown=>False) ?_ ?_) ?_
 · intro r h' w' φ' v hR hs' g hr
   obtain ⟨τ,B,h1,h2,h3⟩:=hret r h' hR;obtain ⟨φn,g2,st,hs2,hm2,hτ⟩:=back τ h' w' φ' B hs' g;have hsa:Sim n w' φn Λ ⟨s.t,eE τ s.h h'⟩ a:=⟨hs.defs,hs.size,fun i=>(hs.tmps i).goes g2 st,hs2⟩;exact hN _ w' φn _ h3 (hsa.put o.dst hd (hr.ren hm2 hτ h1 h2)) g2
 · intro x h' w' φ' hR hs' g
   obtain ⟨τ,B,h1⟩:=hpan x h' hR;obtain ⟨φn,g2,st,hs2,hm2,hτ⟩:=back τ h' w' φ' B hs' g;have hsa:Sim n w' φn Λ ⟨s.t,eE τ s.h h'⟩ a:=⟨hs.defs,hs.size,fun i=>(hs.tmps i).goes g2 st,hs2⟩;exact hP x _ w' φn a h1 hsa g2
 · intro e w' h
   cases e with
   | returned v=>exact h
   | panicked chain=>exact h
   | outgrown=>exact h.elim
end rules
end Go.Proofs.YthnfcmgpedppaaaGreat.Fw
