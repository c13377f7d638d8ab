/- The texts U22j, U22k, U22l, U22m, U22n, U22o, U22p, U22q, one behind the other: what the walks and plain laws need; conditions stand with each theorem. -/
import Derived.Test.YthnfcmgpedppaaaGreatCat5
set_option linter.unusedVariables false
set_option linter.unusedSimpArgs false
set_option linter.unusedSectionVars false
set_option maxRecDepth 20000
set_option maxHeartbeats 4000000
namespace Go.Proofs.YthnfcmgpedppaaaGreat.Fw
open Go.RowKit
structure DoS where
 c:Int
 a:Int
 b:List UInt8
 m:Msg
 k:Int
 f:Bool
instance:Inhabited DoS:=⟨⟨0,0,[],mZ,0,false⟩⟩
def doR (d:DoS):List AV:=doC d.c d.a d.b d.m d.k d.f
def vF (d:DoS):Prop:=d.b.length≤1073741824∧gp d.m∧oB d.m
noncomputable def zB:Code:=Tryz.f3.body.getD .skip
def lC:Code→Code
 | .block _ c=>c
 | .loop c=>c
 | c=>c
def tC:Code→Code
 | .cond _ x _=>x
 | c=>c
section
variable (u0 u1 s0 s1 vl:Value) (bs bx:Nat) (l:List DoS) (i j n:Nat) (d:DoS) (o:List UInt8) (e:Int)
def Y0:AS:=mkS [(0,.agg [.v u0,.v u1]),(1,.v vl)] []
def Y1:AS:=mkS [(1,.v vl),(2,.ptr 100 0 0)] [(100,.box [.v u0,.v u1])]
def Y2:AS:=mkS [(1,.v vl),(2,.ptr 100 0 0),(5,.ptr 201 0 0)] [(100,.box [.v u0,.v u1]),(201,.box [.v s0,.v s1])]
def Y3:AS:=mkS [(1,.v vl),(2,.ptr 100 0 0),(5,.ptr 201 0 0),(6,pp bs),(7,i64 0)] [(100,.box [.v u0,.v u1]),(201,.box [.v s0,.v s1])]
def Y4:AS:=mkS [(1,.v vl),(5,.ptr 201 0 0),(6,pp bs),(7,i64 0),(8,pp bx),(9,i64 0)] [(201,.box [.v s0,.v s1])]
def Y5:AS:=mkS [(1,.v vl),(5,.ptr 201 0 0),(6,pp bs),(8,pp bx),(49,tf false)] [(201,.box [.v s0,.v s1])]
def Y6:AS:=mkS [(1,.v vl),(5,.ptr 201 0 0),(6,pp bs),(8,pp bx)] [(201,.box [.v s0,.v s1])]
def Y7 (x:AV):AS:=mkS [(1,.v vl),(6,pp bs),(8,pp bx),(62,x),(63,i64 n),(64,i64 0)] []
def Y8 (x:AV):AS:=mkS [(1,x),(6,pp bs),(8,pp bx)] []
def YE:AS:=mkS [(6,pp bs),(8,pp bx)] []
def YT (r:Nat) (b:Bool):AS:=mkS [(6,pp bs),(8,pp bx),(r,tf b)] []
abbrev yL (r:List (Nat×AV)):List (Nat×AV):=[(6,pp bs),(8,pp bx),(81,.fz 0 l.length (cl doR l)),(82,i64 l.length),(83,i64 i)]++r
def Y10 (r:List (Nat×AV)):AS:=mkS (yL bs bx l i r) []
def Y17 (r:List (Nat×AV)):AS:=mkS (yL bs bx l i ((15,.ptr 1803 0 0)::r)) [(1803,.box (doR (l.getD i default)))]
abbrev yP (W:List UInt8) (n j:Nat) (r:List (Nat×AV)):List (Nat×AV):=[(118,.fz 0 [W.take n,W.drop n].length (cl (lc 0 bc) [W.take n,W.drop n])),(119,i64 2),(120,i64 j)]++r
def pAt (W:List UInt8) (n j:Nat):List UInt8:=[W.take n,W.drop n].getD j default
end
theorem zp0 (u0 u1:Value)(vl:Value):AWp Tryz.prog Tryz.f3.ntmps (fC zB) (fun x s=>x=.normal∧Weak s (Y1 u0 u1 vl)) (Y0 u0 u1 vl):=by
 refine ab ?_;refine ai rfl rfl (aS 100) ?_;iterate 2 refine ab ?_
 exact ⟨rfl,Weak.full 0 []⟩
theorem zp1a (u0 u1:Value)(vl:Value):Go1 Tryz.prog Tryz.f3.ntmps (oC (fC (sC zB))) [0] (Y1 u0 u1 vl) ((Y1 u0 u1 vl).put (some 24) (.agg [.v u0,.v u1])):=by
 refine Go1.cons rfl rfl (bb (z:=.agg [.v u0,.v u1]) (hy:=rfl)) ?_;refine Go1.nil ?_;exact Weak.refl _
theorem zp1b (u0 u1:Value)(vl:Value)(s0 s1:Value) (hone:[AV.v s0,AV.v s1].all AV.one=true):AOps Tryz.prog Tryz.f3.ntmps (oC (fC (sC zB))) (fun x s=>x=.normal∧Weak s (Y2 u0 u1 s0 s1 vl)) [2,3] (((Y1 u0 u1 vl).put (some 24) (.agg [.v u0,.v u1])).put (some 25) (.agg [.v s0,.v s1])):=by
 refine ai rfl rfl (ap 201) ?_;refine ai rfl rfl (cI (h1:=hone)) ?_;refine ab ?_;exact ⟨rfl,Weak.full 0 []⟩
theorem FL (u0 u1:Value)(vl:Value)(s0 s1:Value):Go1 Tryz.prog Tryz.f3.ntmps (oC (fC (sC (sC zB)))) [0] (Y2 u0 u1 s0 s1 vl) ((Y2 u0 u1 s0 s1 vl).put (some 27) (.agg [.v s0,.v s1])):=by
 refine Go1.cons rfl rfl (bb (z:=.agg [.v s0,.v s1]) (hy:=rfl)) ?_;refine Go1.nil ?_;exact Weak.refl _
theorem zp2b (u0 u1:Value)(vl:Value)(s0 s1:Value)(bs:Nat):AOps Tryz.prog Tryz.f3.ntmps (oC (fC (sC (sC zB)))) (fun x s=>x=.normal∧Weak s (Y3 u0 u1 s0 s1 vl bs)) [2,3,4,5,6] (((Y2 u0 u1 s0 s1 vl).put (some 27) (.agg [.v s0,.v s1])).put (some 28) (.tup [pp bs,i64 0])):=by
 iterate 6 refine ab ?_
 exact ⟨rfl,Weak.full 0 []⟩
theorem zp3a (u0 u1:Value)(vl:Value)(s0 s1:Value)(bs:Nat):Go1 Tryz.prog Tryz.f3.ntmps (oC (fC (sC (sC (sC zB))))) [0] (Y3 u0 u1 s0 s1 vl bs) ((Y3 u0 u1 s0 s1 vl bs).put (some 32) (.agg [.v u0,.v u1])):=by
 refine Go1.cons rfl rfl (bb (z:=.agg [.v u0,.v u1]) (hy:=rfl)) ?_;refine Go1.nil ?_;exact Weak.refl _
theorem zp3b (u0 u1:Value)(vl:Value)(s0 s1:Value)(bs bx:Nat):AOps Tryz.prog Tryz.f3.ntmps (oC (fC (sC (sC (sC zB))))) (fun x s=>x=.normal∧Weak s (Y4 s0 s1 vl bs bx)) [2,3,4,5,6] (((Y3 u0 u1 s0 s1 vl bs).put (some 32) (.agg [.v u0,.v u1])).put (some 33) (.tup [pp bx,i64 0])):=by
 iterate 6 refine ab ?_
 exact ⟨rfl,Weak.full 0 []⟩
theorem zp4 (vl:Value)(s0 s1:Value)(bs bx:Nat):AWp Tryz.prog Tryz.f3.ntmps (fC (fC (sC (sC (sC (sC zB)))))) (fun x s=>x=.normal∧Weak s (Y5 s0 s1 vl bs bx)) (Y4 s0 s1 vl bs bx):=by
 iterate 3 refine ab ?_
 refine AOps.cons rfl rfl ((OpOk.dec_f (gV) (fun k=>k rfl))) ?_;iterate 5 refine ab ?_
 refine AOps.gcons rfl rfl rfl rfl rfl ((OpOk.bool_is (c:=false) (zG) (rfl))) ?_;iterate 6 refine ab ?_
 exact ⟨rfl,Weak.full 0 []⟩
theorem zp5 (vl:Value)(s0 s1:Value)(bs bx:Nat):AWp Tryz.prog Tryz.f3.ntmps (sC (fC (sC (sC (sC (sC zB)))))) (fun x s=>x=.normal∧Weak s (Y6 s0 s1 vl bs bx)) (Y5 s0 s1 vl bs bx):=by
 iterate 2 refine ab ?_
 exact ⟨rfl,Weak.full 0 []⟩
theorem zp6 (vl:Value)(a0:Option Addr) (n c0:Nat) (s1:Value)(bs bx:Nat):AWp Tryz.prog Tryz.f3.ntmps (fC (fC (sC (sC (sC (sC (sC zB))))))) (fun x s=>x=.normal∧Weak s (Y7 vl bs bx n (.v (.slice a0 n c0)))) (Y6 (.slice a0 n c0) s1 vl bs bx):=by
 iterate 6 refine ab ?_
 exact ⟨rfl,Weak.full 0 []⟩
theorem zp8 (bs bx:Nat) (l:List DoS):AWp Tryz.prog Tryz.f3.ntmps (fC (fC (sC (sC (sC (sC (sC (sC zB)))))))) (fun x s=>x=.normal∧Weak s (Y10 bs bx l 0 [])) (Y8 bs bx (.fz 0 l.length (cl doR l))):=by
 iterate 5 refine ab ?_
 exact ⟨rfl,Weak.full 0 []⟩
theorem FU (bs bx:Nat) (l:List DoS) (i:Nat) (hi:i<l.length):AWp Tryz.prog Tryz.f3.ntmps (fC (lC (lC (sC (fC (sC (sC (sC (sC (sC (sC zB))))))))))) (fun x s=>x=.normal∧Weak s (Y10 bs bx l i [(84,tf true)])) (Y10 bs bx l i []):=by
 refine ab ?_;refine AOps.cons rfl rfl ((OpOk.dec_t (e8) (by omega))) ?_;refine ab ?_;exact ⟨rfl,Weak.full 0 []⟩
theorem FV (bs bx:Nat) (l:List DoS) (i:Nat) (hi:¬ i<l.length):AWp Tryz.prog Tryz.f3.ntmps (fC (lC (lC (sC (fC (sC (sC (sC (sC (sC (sC zB))))))))))) (fun x s=>x=.normal∧Weak s (YT bs bx 84 false)) (Y10 bs bx l i []):=by
 refine ab ?_;refine AOps.cons rfl rfl ((OpOk.dec_f (e8) (by omega))) ?_;refine ab ?_;exact ⟨rfl,Weak.full 0 []⟩
theorem G0 (bs bx:Nat) (l:List DoS) (i:Nat):AWp Tryz.prog Tryz.f3.ntmps (fC (sC (lC (lC (sC (fC (sC (sC (sC (sC (sC (sC zB)))))))))))) (fun x s=>x=.normal∧Weak s (Y10 bs bx l i [])) (Y10 bs bx l i [(84,tf true)]):=by
 iterate 2 refine ab ?_
 exact ⟨rfl,Weak.full 0 []⟩
theorem G1 (bs bx:Nat):AWp Tryz.prog Tryz.f3.ntmps (fC (sC (lC (lC (sC (fC (sC (sC (sC (sC (sC (sC zB)))))))))))) (fun x s=>x=.exit 4∧Weak s (YE bs bx)) (YT bs bx 84 false):=by
 iterate 2 refine ab ?_
 exact ⟨rfl,Weak.full 0 []⟩
theorem zp17 (bs bx:Nat) (l:List DoS) (i:Nat) (hi:i<l.length):AWp Tryz.prog Tryz.f3.ntmps (fC (lC (fC (sC (sC (lC (lC (sC (fC (sC (sC (sC (sC (sC (sC zB))))))))))))))) (fun x s=>x=.normal∧Weak s (Y17 bs bx l i [(14,i64 i)])) (Y10 bs bx l i []):=by
 iterate 4 refine ab ?_
 refine ai rfl rfl (ap 1803) ?_;iterate 3 refine ab ?_
 exact ⟨rfl,Weak.full 0 []⟩
theorem FT (bs bx:Nat) (l:List DoS) (i:Nat) (hi:i≤30):AWp Tryz.prog Tryz.f3.ntmps (fC (fC (sC (lC (fC (sC (sC (lC (lC (sC (fC (sC (sC (sC (sC (sC (sC zB))))))))))))))))) (fun x s=>x=.normal∧Weak s (Y17 bs bx l i [(89,tf false)])) (Y17 bs bx l i [(14,i64 i)]):=by
 iterate 2 refine ab ?_
 refine AOps.cons rfl rfl ((OpOk.dec_f (gW) (by omega))) ?_;refine ab ?_;exact ⟨rfl,Weak.full 0 []⟩
theorem FS (bs bx:Nat) (l:List DoS) (i:Nat) (hi:¬ i≤30):AWp Tryz.prog Tryz.f3.ntmps (fC (fC (sC (lC (fC (sC (sC (lC (lC (sC (fC (sC (sC (sC (sC (sC (sC zB))))))))))))))))) (fun x s=>x=.normal∧Weak s (YT bs bx 89 true)) (Y17 bs bx l i [(14,i64 i)]):=by
 iterate 2 refine ab ?_
 refine AOps.cons rfl rfl ((OpOk.dec_t (gW) (by omega))) ?_;refine ab ?_;exact ⟨rfl,Weak.full 0 []⟩
theorem FZ (bs bx:Nat) (l:List DoS) (i:Nat):AWp Tryz.prog Tryz.f3.ntmps (sC (fC (sC (lC (fC (sC (sC (lC (lC (sC (fC (sC (sC (sC (sC (sC (sC zB))))))))))))))))) (fun x s=>x=.normal∧Weak s (Y17 bs bx l i [])) (Y17 bs bx l i [(89,tf false)]):=by
 iterate 2 refine ab ?_
 exact ⟨rfl,Weak.full 0 []⟩
theorem FY (bs bx:Nat):AWp Tryz.prog Tryz.f3.ntmps (sC (fC (sC (lC (fC (sC (sC (lC (lC (sC (fC (sC (sC (sC (sC (sC (sC zB))))))))))))))))) (fun x s=>x=.exit 4∧Weak s (YE bs bx)) (YT bs bx 89 true):=by
 iterate 2 refine ab ?_
 exact ⟨rfl,Weak.full 0 []⟩
theorem zp19 (bs bx:Nat) (l:List DoS) (i:Nat):AWp Tryz.prog Tryz.f3.ntmps (fC (fC (sC (sC (lC (fC (sC (sC (lC (lC (sC (fC (sC (sC (sC (sC (sC (sC zB)))))))))))))))))) (fun x s=>x=.normal∧Weak s (Y17 bs bx l i [(91,tf (l.getD i default).f)])) (Y17 bs bx l i []):=by
 iterate 4 refine ab ?_
 exact ⟨rfl,Weak.full 0 []⟩
theorem zp22 (bs bx:Nat) (l:List DoS) (i:Nat) (hd:vF (l.getD i default)):AWp Tryz.prog Tryz.f3.ntmps (fC (sC (sC (sC (lC (fC (sC (sC (lC (lC (sC (fC (sC (sC (sC (sC (sC (sC zB)))))))))))))))))) (fun x s=>x=.normal∧Weak s (Y17 bs bx l i [(16,.fz 0 (byO (l.getD i default).b (l.getD i default).m).length (cl bc (byO (l.getD i default).b (l.getD i default).m)))])) (Y17 bs bx l i []):=by
 iterate 2 refine ab ?_
 refine ai rfl rfl (aj (0) (hc:=(j5 (l.getD i default).c (l.getD i default).a (l.getD i default).b (l.getD i default).m (l.getD i default).k (l.getD i default).f hd.2.1 hd.2.2))) ?_;iterate 2 refine ab ?_
 exact ⟨rfl,Weak.full 0 []⟩
theorem zp23 (bs bx:Nat) (l:List DoS) (i:Nat) (hW:(byO (l.getD i default).b (l.getD i default).m).length≤1073741824):AWp Tryz.prog Tryz.f3.ntmps (fC (sC (sC (sC (sC (lC (fC (sC (sC (lC (lC (sC (fC (sC (sC (sC (sC (sC (sC zB))))))))))))))))))) (fun x s=>x=.normal∧Weak s (Y17 bs bx l i [(16,.fz 0 (byO (l.getD i default).b (l.getD i default).m).length (cl bc (byO (l.getD i default).b (l.getD i default).m))),(17,i64 (Int.toNat ((l.getD i default).k%18446744073709551616%(((byO (l.getD i default).b (l.getD i default).m).length:Int)+1)):Nat))])) (Y17 bs bx l i [(16,.fz 0 (byO (l.getD i default).b (l.getD i default).m).length (cl bc (byO (l.getD i default).b (l.getD i default).m)))]):=by
 have hm0:(((byO (l.getD i default).b (l.getD i default).m).length:Int)+1)%18446744073709551616=((byO (l.getD i default).b (l.getD i default).m).length:Int)+1:=Int.emod_eq_of_lt (by omega) (by omega);have h1:=Int.emod_nonneg ((l.getD i default).k%18446744073709551616) (show (((byO (l.getD i default).b (l.getD i default).m).length:Int)+1)≠0 by omega);have h2:=Int.emod_lt_of_pos ((l.getD i default).k%18446744073709551616) (show 0<(((byO (l.getD i default).b (l.getD i default).m).length:Int)+1) by omega);have hn:((l.getD i default).k%18446744073709551616%(((byO (l.getD i default).b (l.getD i default).m).length:Int)+1))=((Int.toNat ((l.getD i default).k%18446744073709551616%(((byO (l.getD i default).b (l.getD i default).m).length:Int)+1)):Nat):Int):=by omega
 have h0:0≤(l.getD i default).k%18446744073709551616:=Int.emod_nonneg _ (by decide);iterate 3 refine ab ?_
 refine ai rfl rfl (qj) ?_;iterate 3 refine ab ?_
 refine AOps.cons rfl rfl (OpOk.to (qj) (congrArg (fun z=>AV.v (.int .u64 z)) hm0)) ?_;refine ai rfl rfl (zC) ?_;refine ai rfl rfl (vR) ?_;refine AOps.cons rfl rfl (OpOk.to (gh) (congrArg (fun z=>AV.v (.int .i64 z)) hn)) ?_;refine ab ?_;exact ⟨rfl,Weak.full 0 []⟩
theorem zp24 (bs bx:Nat) (l:List DoS) (i:Nat) (W:List UInt8) (n:Nat) (hn:n≤W.length):AWp Tryz.prog Tryz.f3.ntmps (fC (sC (sC (sC (sC (sC (lC (fC (sC (sC (lC (lC (sC (fC (sC (sC (sC (sC (sC (sC zB)))))))))))))))))))) (fun x s=>x=.normal∧Weak s (Y17 bs bx l i (yP W n 0 []))) (Y17 bs bx l i [(16,.fz 0 W.length (cl bc W)),(17,i64 n)]):=by
 refine bj [ag,ag,ag,ag,ag,ag,bv [(2506,_)],ag,ag] [af [16] [] 113,af [17] [] 114,af [112,113] [] 115,af [16] [] 116,af [17] [] 117,af [115,116] [] 118,af [114,117] [2506] 119 [2506],af [118] [2506] 120,af [] [] 121] rfl ⟨ah,ah,ah,ah,ah,ah,aC fun _=>aN rfl rfl (bO 2506 (lc 0 bc) [W.take n,W.drop n] [(_,_),(_,_)]),ah,ah,trivial⟩ ?_;exact ⟨rfl,Weak.full 0 []⟩
theorem FQ (bs bx:Nat) (l:List DoS) (i:Nat) (W:List UInt8) (n j:Nat) (hj:j<2):AWp Tryz.prog Tryz.f3.ntmps (fC (lC (lC (sC (sC (sC (sC (sC (sC (lC (fC (sC (sC (lC (lC (sC (fC (sC (sC (sC (sC (sC (sC zB))))))))))))))))))))))) (fun x s=>x=.normal∧Weak s (Y17 bs bx l i (yP W n j [(121,tf true)]))) (Y17 bs bx l i (yP W n j [])):=by
 refine ab ?_;refine AOps.cons rfl rfl ((OpOk.dec_t (e8) (by omega))) ?_;refine ab ?_;exact ⟨rfl,Weak.full 0 []⟩
theorem FR (bs bx:Nat) (l:List DoS) (i:Nat) (W:List UInt8) (n j:Nat) (hj:¬ j<2):AWp Tryz.prog Tryz.f3.ntmps (fC (lC (lC (sC (sC (sC (sC (sC (sC (lC (fC (sC (sC (lC (lC (sC (fC (sC (sC (sC (sC (sC (sC zB))))))))))))))))))))))) (fun x s=>x=.normal∧Weak s (Y10 bs bx l i [(121,tf false)])) (Y17 bs bx l i (yP W n j [])):=by
 refine ab ?_;refine AOps.cons rfl rfl ((OpOk.dec_f (e8) (by omega))) ?_;refine ab ?_;exact ⟨rfl,Weak.full 0 []⟩
theorem DQ (bs bx:Nat) (l:List DoS) (i:Nat) (W:List UInt8) (n j:Nat):AWp Tryz.prog Tryz.f3.ntmps (fC (sC (lC (lC (sC (sC (sC (sC (sC (sC (lC (fC (sC (sC (lC (lC (sC (fC (sC (sC (sC (sC (sC (sC zB)))))))))))))))))))))))) (fun x s=>x=.normal∧Weak s (Y17 bs bx l i (yP W n j []))) (Y17 bs bx l i (yP W n j [(121,tf true)])):=by
 iterate 2 refine ab ?_
 exact ⟨rfl,Weak.full 0 []⟩
theorem DR (bs bx:Nat) (l:List DoS) (i:Nat):AWp Tryz.prog Tryz.f3.ntmps (fC (sC (lC (lC (sC (sC (sC (sC (sC (sC (lC (fC (sC (sC (lC (lC (sC (fC (sC (sC (sC (sC (sC (sC zB)))))))))))))))))))))))) (fun x s=>x=.exit 6∧Weak s (Y10 bs bx l i [])) (Y10 bs bx l i [(121,tf false)]):=by
 iterate 2 refine ab ?_
 exact ⟨rfl,Weak.full 0 []⟩
theorem zp26 (bs bx:Nat) (l:List DoS) (i:Nat) (W:List UInt8) (n j:Nat) (hj:j<2):AWp Tryz.prog Tryz.f3.ntmps (fC (lC (fC (sC (sC (lC (lC (sC (sC (sC (sC (sC (sC (lC (fC (sC (sC (lC (lC (sC (fC (sC (sC (sC (sC (sC (sC zB))))))))))))))))))))))))))) (fun x s=>x=.normal∧Weak s (Y17 bs bx l i (yP W n j [(19,.fz 0 (pAt W n j).length (cl bc (pAt W n j)))]))) (Y17 bs bx l i (yP W n j [])):=by
 have hj2:(j:Int)<(([W.take n,W.drop n].length:Nat):Int):=by show (j:Int)<2;omega
 iterate 5 refine ab ?_
 exact ⟨rfl,Weak.full 0 []⟩
theorem FP (bs bx:Nat) (l:List DoS) (i:Nat) (W:List UInt8) (n j:Nat):Go1 Tryz.prog Tryz.f3.ntmps (oC (fC (sC (lC (fC (sC (sC (lC (lC (sC (sC (sC (sC (sC (sC (lC (fC (sC (sC (lC (lC (sC (fC (sC (sC (sC (sC (sC (sC zB))))))))))))))))))))))))))))) [0,1,2,3,4,5] (Y17 bs bx l i (yP W n j [(19,.fz 0 (pAt W n j).length (cl bc (pAt W n j)))])) (Y17 bs bx l i (yP W n j [(19,.fz 0 (pAt W n j).length (cl bc (pAt W n j))),(125,pp bs),(127,i64 (l.getD i default).c),(129,i64 (l.getD i default).a),(130,.fz 0 (pAt W n j).length (cl bc (pAt W n j)))])):=by
 refine Go1.cons rfl rfl (aA) ?_;refine Go1.cons rfl rfl (fJ) ?_;refine Go1.cons rfl rfl (bb) ?_;refine Go1.cons rfl rfl (fJ) ?_;refine Go1.cons rfl rfl (bb) ?_;refine Go1.cons rfl rfl (aA) ?_;refine Go1.nil ?_;exact Weak.full 0 []
theorem FO (bs bx:Nat) (l:List DoS) (i:Nat) (W:List UInt8) (n j:Nat) (o:List UInt8) (e:Int):AOps Tryz.prog Tryz.f3.ntmps (oC (fC (sC (lC (fC (sC (sC (lC (lC (sC (sC (sC (sC (sC (sC (lC (fC (sC (sC (lC (lC (sC (fC (sC (sC (sC (sC (sC (sC zB))))))))))))))))))))))))))))) (fun x s=>x=.normal∧Weak s (Y17 bs bx l i (yP W n j [(19,.fz 0 (pAt W n j).length (cl bc (pAt W n j))),(20,.fz 0 o.length (cl bc o)),(21,i64 e)]))) [7,8,9,10,11] ((Y17 bs bx l i (yP W n j [(19,.fz 0 (pAt W n j).length (cl bc (pAt W n j))),(125,pp bs),(127,i64 (l.getD i default).c),(129,i64 (l.getD i default).a),(130,.fz 0 (pAt W n j).length (cl bc (pAt W n j)))])).put (some 131) (fR o e)):=by
 iterate 6 refine ab ?_
 exact ⟨rfl,Weak.full 0 []⟩
theorem FN (bs bx:Nat) (l:List DoS) (i:Nat) (W:List UInt8) (n j:Nat) (o:List UInt8) (e:Int):Go1 Tryz.prog Tryz.f3.ntmps (oC (fC (sC (sC (lC (fC (sC (sC (lC (lC (sC (sC (sC (sC (sC (sC (lC (fC (sC (sC (lC (lC (sC (fC (sC (sC (sC (sC (sC (sC zB)))))))))))))))))))))))))))))) [0,1,2,3,4,5] (Y17 bs bx l i (yP W n j [(19,.fz 0 (pAt W n j).length (cl bc (pAt W n j))),(20,.fz 0 o.length (cl bc o)),(21,i64 e)])) (Y17 bs bx l i (yP W n j [(20,.fz 0 o.length (cl bc o)),(21,i64 e),(135,pp bx),(137,i64 (l.getD i default).c),(139,i64 (l.getD i default).a),(140,.fz 0 (pAt W n j).length (cl bc (pAt W n j)))])):=by
 refine Go1.cons rfl rfl (aA) ?_;refine Go1.cons rfl rfl (fJ) ?_;refine Go1.cons rfl rfl (bb) ?_;refine Go1.cons rfl rfl (fJ) ?_;refine Go1.cons rfl rfl (bb) ?_;refine Go1.cons rfl rfl (aA) ?_;refine Go1.nil ?_;exact Weak.full 0 []
theorem FM (bs bx:Nat) (l:List DoS) (i:Nat) (W:List UInt8) (n j:Nat) (o:List UInt8) (e:Int):AOps Tryz.prog Tryz.f3.ntmps (oC (fC (sC (sC (lC (fC (sC (sC (lC (lC (sC (sC (sC (sC (sC (sC (lC (fC (sC (sC (lC (lC (sC (fC (sC (sC (sC (sC (sC (sC zB)))))))))))))))))))))))))))))) (fun x s=>x=.normal∧Weak s (Y17 bs bx l i (yP W n j [(20,.fz 0 o.length (cl bc o)),(21,i64 e),(22,.fz 0 o.length (cl bc o)),(23,i64 e)]))) [7,8,9,10,11] ((Y17 bs bx l i (yP W n j [(20,.fz 0 o.length (cl bc o)),(21,i64 e),(135,pp bx),(137,i64 (l.getD i default).c),(139,i64 (l.getD i default).a),(140,.fz 0 (pAt W n j).length (cl bc (pAt W n j)))])).put (some 141) (fR o e)):=by
 iterate 6 refine ab ?_
 exact ⟨rfl,Weak.full 0 []⟩
theorem zp29 (bs bx:Nat) (l:List DoS) (i:Nat) (W:List UInt8) (n j:Nat) (o:List UInt8) (e:Int):AWp Tryz.prog Tryz.f3.ntmps (fC (sC (sC (sC (lC (fC (sC (sC (lC (lC (sC (sC (sC (sC (sC (sC (lC (fC (sC (sC (lC (lC (sC (fC (sC (sC (sC (sC (sC (sC zB)))))))))))))))))))))))))))))) (fun x s=>x=.normal∧Weak s (Y17 bs bx l i (yP W n j [(152,tf false)]))) (Y17 bs bx l i (yP W n j [(20,.fz 0 o.length (cl bc o)),(21,i64 e),(22,.fz 0 o.length (cl bc o)),(23,i64 e)])):=by
 iterate 3 refine ab ?_
 refine AOps.cons rfl rfl ((OpOk.dec_f (gV) (fun k=>k rfl))) ?_;iterate 3 refine ab ?_
 refine AOps.gcons rfl rfl rfl rfl rfl ((OpOk.bool_is (c:=true) (aj (0) (hc:=(rx o o 0 0))) (decide_eq_true rfl))) ?_;iterate 3 refine ab ?_
 exact ⟨rfl,Weak.full 0 []⟩
theorem G2 (bs bx:Nat) (l:List DoS) (i:Nat) (W:List UInt8) (n j:Nat):AWp Tryz.prog Tryz.f3.ntmps (sC (sC (sC (sC (lC (fC (sC (sC (lC (lC (sC (sC (sC (sC (sC (sC (lC (fC (sC (sC (lC (lC (sC (fC (sC (sC (sC (sC (sC (sC zB)))))))))))))))))))))))))))))) (fun x s=>x=.normal∧Weak s (Y17 bs bx l i (yP W n j []))) (Y17 bs bx l i (yP W n j [(152,tf false)])):=by
 iterate 2 refine ab ?_
 exact ⟨rfl,Weak.full 0 []⟩
theorem zp31 (bs bx:Nat) (l:List DoS) (i:Nat) (W:List UInt8) (n j:Nat) (hj:j<2):AWp Tryz.prog Tryz.f3.ntmps (sC (sC (sC (lC (lC (sC (sC (sC (sC (sC (sC (lC (fC (sC (sC (lC (lC (sC (fC (sC (sC (sC (sC (sC (sC zB))))))))))))))))))))))))) (fun x s=>x=.normal∧Weak s (Y17 bs bx l i (yP W n (j+1) []))) (Y17 bs bx l i (yP W n j [])):=by
 iterate 4 refine ab ?_
 exact ⟨rfl,Weak.full 0 []⟩
theorem zp32 (bs bx:Nat) (l:List DoS) (i:Nat) (hi:i≤30):AWp Tryz.prog Tryz.f3.ntmps (sC (sC (sC (lC (lC (sC (fC (sC (sC (sC (sC (sC (sC zB))))))))))))) (fun x s=>x=.normal∧Weak s (Y10 bs bx l (i+1) [])) (Y10 bs bx l i []):=by
 iterate 4 refine ab ?_
 exact ⟨rfl,Weak.full 0 []⟩
theorem G3 (bs bx:Nat) (l:List DoS) (i:Nat):AWp Tryz.prog Tryz.f3.ntmps (sC (fC (tC (sC (fC (sC (sC (lC (fC (sC (sC (lC (lC (sC (fC (sC (sC (sC (sC (sC (sC zB))))))))))))))))))))) (fun x s=>x=.normal∧Weak s (Y10 bs bx l i [])) (Y10 bs bx l i [(100,tf false)]):=by
 iterate 2 refine ab ?_
 exact ⟨rfl,Weak.full 0 []⟩
theorem FK (bs bx:Nat):Go1 Tryz.prog Tryz.f3.ntmps (oC (fC (sC (sC (sC (sC (sC (sC (sC zB))))))))) [0] (YE bs bx) (mkS [(6,pp bs),(8,pp bx),(155,pp bs)] []):=by
 refine Go1.cons rfl rfl (aA) ?_;refine Go1.nil ?_;exact Weak.full 0 []
theorem FJ (bs bx:Nat) (e:Int):Go1 Tryz.prog Tryz.f3.ntmps (oC (fC (sC (sC (sC (sC (sC (sC (sC zB))))))))) [2] ((mkS [(6,pp bs),(8,pp bx),(155,pp bs)] []).put (some 156) (i64 e)) (mkS [(8,pp bx),(156,i64 e),(157,pp bx)] []):=by
 refine Go1.cons rfl rfl (aA) ?_;refine Go1.nil ?_;exact Weak.full 0 []
theorem FI (bs bx:Nat) (e:Int):AOps Tryz.prog Tryz.f3.ntmps (oC (fC (sC (sC (sC (sC (sC (sC (sC zB))))))))) (fun x s=>x=.normal∧Weak s (mkS [(4,tf true)] [])) [4,5] ((mkS [(8,pp bx),(156,i64 e),(157,pp bx)] []).put (some 158) (i64 e)):=by
 refine AOps.cons rfl rfl ((OpOk.dec_t (dm) (rfl))) ?_;iterate 2 refine ab ?_
 exact ⟨rfl,Weak.full 0 []⟩
namespace J
section
variable [hJ:HasJ]
def zoJ (z:Zo):List AV:=[str z.o,.fz 0 z.rs.length (cl rrJ z.rs)]
theorem E9 {lv n:Nat} {l:List Zo}:SF (.fz lv n (cl zoJ l)):=by
 refine .fz (gu (p:=NU) fun x _ c hc=>?_) (gu (p:=SF) fun x _ c hc=>?_)
 · simp only [zoJ,List.mem_cons,List.not_mem_nil,or_false] at hc
   rcases hc with rfl|rfl
   · exact zU
   · exact Gp
 · simp only [zoJ,List.mem_cons,List.not_mem_nil,or_false] at hc
   rcases hc with rfl|rfl
   · exact .v
   · exact vJ
theorem zpJ (vl:Value) (bs bx:Nat) (t:Tr) (ht:cx t):AWp Tryz.prog Tryz.f3.ntmps (sC (fC (sC (sC (sC (sC (sC zB))))))) (fun x s=>x=.normal∧Weak s (Y8 bs bx (.v vl))) (Y7 vl bs bx t.zs.length (.fz 0 t.zs.length (cl zoJ t.zs))):=by
 have hz1:=ht.1;refine AWp.block ?_;refine AWp.loopI (α:=Nat) (fun i=>mkS [(1,.v vl),(6,pp bs),(8,pp bx),(62,.fz 0 t.zs.length (cl zoJ t.zs)),(63,i64 t.zs.length),(64,i64 i)] []) (fun i=>i≤t.zs.length) (fun i=>t.zs.length-i) 0 ?_ (Weak.full (0) []) ?_
 ·
  exact Nat.zero_le _
 ·
  rintro i hi;refine AWp.seq ?_;refine AWp.region ?_;refine AOps.dec rfl rfl (e8) (fun h7_0=>?_) (fun h7_0=>?_)
  ·
   refine AOps.nil ?_;refine AWp.seq ?_;refine AWp.cond_t rfl ?_;refine AWp.skip ?_;refine AWp.seq ?_;refine AWp.block ?_;refine AWp.seq ?_;refine AWp.region ?_;have hzo:=ht.2.1 _ (aq (l:=t.zs) (i:=i) (by omega));have hzr:=hzo.2.1.1;refine AOps.cons rfl rfl (vQ) ?_;refine AOps.cons rfl rfl (bb) ?_;refine AOps.cons rfl rfl (ap 902) ?_;refine AOps.cons rfl rfl (cI) ?_;refine AOps.nil ?_;refine AWp.seq ?_;refine AWp.region ?_;refine AOps.cons rfl rfl (fJ) ?_;refine AOps.cons rfl rfl (bb) ?_;refine AOps.cons rfl rfl (jE) ?_;refine AOps.cons rfl rfl (aA) ?_;refine AOps.nil ?_;refine AWp.block ?_;refine AWp.loopI (α:=Nat) (fun j=>mkS [(1,.v vl),(6,pp bs),(8,pp bx),(62,.fz 0 t.zs.length (cl zoJ t.zs)),(63,i64 t.zs.length),(64,i64 i),(69,.fz 0 (t.zs.getD i default).rs.length (cl rrJ (t.zs.getD i default).rs)),(70,i64 (t.zs.getD i default).rs.length),(71,i64 j)] []) (fun j=>j≤(t.zs.getD i default).rs.length) (fun j=>(t.zs.getD i default).rs.length-j) 0 ?_ (Weak.full (0) []) ?_
   ·
    exact Nat.zero_le _
   ·
    rintro j hj;refine AWp.seq ?_;refine AWp.region ?_;refine AOps.dec rfl rfl (e8) (fun h10_0=>?_) (fun h10_0=>?_)
    ·
     refine AOps.nil ?_;refine AWp.seq ?_;refine AWp.cond_t rfl ?_;refine AWp.skip ?_;refine AWp.seq ?_;refine AWp.block ?_;refine AWp.seq ?_;refine AWp.region ?_;refine AOps.cons rfl rfl (vQ) ?_;refine AOps.cons rfl rfl (bb) ?_;refine AOps.cons rfl rfl (ap 1202) ?_;refine AOps.cons rfl rfl (cI) ?_;refine AOps.nil ?_;refine AWp.region ?_;refine AOps.cons rfl rfl (fJ) ?_;refine AOps.cons rfl rfl (bb) ?_;refine AOps.cons rfl rfl (bO 1302 fD [()] [(_,_)]) ?_;refine AOps.weak (Weak.full 0 [] (t:=[(1,.v vl),(6,pp bs),(8,pp bx),(62,.fz 0 t.zs.length (cl zoJ t.zs)),(63,i64 t.zs.length),(64,i64 i),(69,.fz 0 (t.zs.getD i default).rs.length (cl rrJ (t.zs.getD i default).rs)),(70,i64 (t.zs.getD i default).rs.length),(71,i64 j),(77,.sl 1302 0 0 ([()]:List Unit).length 1)]) (hl:=[(1302,.row (cl fD [()]) 1 0)])) ?_;refine AOps.callj 0 (zn (by repeat' (first|exact trivial|refine ⟨?_,?_⟩|exact .v|exact .sl|exact .ptr|exact .p .any|exact vJ|exact E9|exact Dh))) (wJ (by repeat' (first|exact trivial|refine ⟨?_,?_⟩|exact sfo_rows|exact zm))) AQ ?_;refine AOps.nil ?_;refine AWp.region ?_;refine AOps.cons rfl rfl (lW) ?_;refine AOps.cons rfl rfl (aA) ?_;refine AOps.nil ?_;refine ⟨j+1,?_,Weak.full (0) [],?_⟩
     ·
      omega
     ·
      omega
    ·
     refine AOps.nil ?_;refine AWp.seq ?_;refine AWp.cond_f rfl ?_;refine AWp.exit ?_;refine AWp.region ?_;refine AOps.cons rfl rfl (lW) ?_;refine AOps.cons rfl rfl (aA) ?_;refine AOps.nil ?_;refine ⟨i+1,?_,Weak.full (0) [],?_⟩
     ·
      omega
     ·
      omega
  ·
   refine AOps.nil ?_;refine AWp.seq ?_;refine AWp.cond_f rfl ?_;refine AWp.exit ?_;exact ⟨rfl,Weak.full 0 []⟩
end
end J
theorem pn {w:World} {φ:aD} {Λ:aW} {x v:Value} (h:Rep w φ Λ (.v x) v):v=x:=by cases h;rfl
theorem qy {T:List (Nat×AV)} {i:Nat}:jm T i=.any∨(i,jm T i)∈T:=by
 induction T with
 | nil=>exact .inl rfl
 | cons p r ih=>
  obtain ⟨k,x⟩:=p;simp only [jm];cases hb:Nat.beq i k with
  | true=>rw [Nat.eq_of_beq_eq_true hb];exact .inr List.mem_cons_self
  | false=>exact ih.imp id (List.mem_cons_of_mem _)
theorem iT {T:List (Nat×AV)} {w:World} {φ:aD} {Λ:aW} {f:Nat→Value} (h:∀ p∈T,Rep w φ Λ p.2 (f p.1)) (i:Nat):Rep w φ Λ (jm T i) (f i):=by
 rcases qy (T:=T) (i:=i) with e|e
 · rw [e];exact .any
 · exact h _ e
theorem ix {s:AS} {d:Nat} {x:AV} (h:∀ i,(s.t i).lev 0=true) (hx:x.lev 0=true):∀ i,((s.put (some d) x).t i).lev 0=true:=fun i=>by
 show (upd s.t d x i).lev 0=true;unfold upd;cases Nat.beq i d with
 | true=>exact hx
 | false=>exact h i
noncomputable abbrev NTl:Nat:=Tryz.f3.ntmps
def St (Λ:aW) (w0:Base) (I:(Ks→aD)→(Ks→aX)→Prop) (S:AS) (w:World) (a:Act):Prop:=∃ ψ H,PS Λ w0 w ψ H∧I ψ H∧H kC=S.h∧Sim NTl w (ψ kC) (Lt Λ ψ kC) S a
def IC (I:(Ks→aD)→(Ks→aX)→Prop):Prop:=∀ ψ H ψ' H',(∀ k,k≠kC→ψ' k=ψ k∧H' k=H k)→I ψ H→I ψ' H'
def σ0:Int→Option (List UInt8):=fun _=>none
def I0 (ψ:Ks→aD) (H:Ks→aX):Prop:=(H kS=emp∧H kX=emp)∧∀ c,H (kR c)=emp∧H (kQ c)=emp
def I1 (t:Tr) (bs:Nat) (ψ:Ks→aD) (H:Ks→aX):Prop:=oD t bs σ0 ψ H∧H kX=emp∧∀ c,H (kQ c)=emp
def I2 (t:Tr) (bs bx N:Nat) (σ τ:Int→Option (List UInt8)) (ψ:Ks→aD) (H:Ks→aX):Prop:=oD t bs σ ψ H∧r8 t bx N τ ψ H
theorem k1 {a b:Ks} (h:a.1≠b.1):a≠b:=fun e=>h (congrArg Prod.fst e)
theorem Ak:kS≠kC:=k1 (show ¬ (1:Nat)=0 by decide)
theorem Aj:kX≠kC:=k1 (show ¬ (2:Nat)=0 by decide)
theorem Cc {c:Int}:kR c≠kC:=k1 (show ¬ (3:Nat)=0 by decide)
theorem Cd {c:Int}:kQ c≠kC:=k1 (show ¬ (4:Nat)=0 by decide)
theorem nXS {c:Int} {k:Ks} (h:k=kX∨∃ c,k=kQ c):¬ TS c k:=by
 rcases h with rfl|⟨c',rfl⟩
 · exact fun h=>h.elim (k1 (show ¬ (2:Nat)=1 by decide)) (k1 (show ¬ (2:Nat)=3 by decide))
 · exact fun h=>h.elim (k1 (show ¬ (4:Nat)=1 by decide)) (k1 (show ¬ (4:Nat)=3 by decide))
theorem nSX {c:Int} {k:Ks} (h:k=kS∨∃ c,k=kR c):¬ TX c k:=by
 rcases h with rfl|⟨c',rfl⟩
 · exact fun h=>h.elim (k1 (show ¬ (1:Nat)=2 by decide)) (k1 (show ¬ (1:Nat)=4 by decide))
 · exact fun h=>h.elim (k1 (show ¬ (3:Nat)=2 by decide)) (k1 (show ¬ (3:Nat)=4 by decide))
section
variable {Λ:aW} {w0:Base} {w:World} {t:Tr} {bs bx N:Nat} {σ τ:Int→Option (List UInt8)} {S S':AS} {a:Act} {I:(Ks→aD)→(Ks→aX)→Prop}
theorem ic1:IC (I1 t bs):=fun ψ H ψ' H' e h=>⟨h.1.frame fun k hk=>e k (by rcases hk with rfl|⟨c,rfl⟩;exact Ak;exact Cc),by rw [(e kX Aj).2];exact h.2.1,fun c=>by rw [(e (kQ c) Cd).2];exact h.2.2 c⟩
theorem ic2:IC (I2 t bs bx N σ τ):=fun ψ H ψ' H' e h=>⟨h.1.frame fun k hk=>e k (by rcases hk with rfl|⟨c,rfl⟩;exact Ak;exact Cc),h.2.frame fun k hk=>e k (by rcases hk with rfl|⟨c,rfl⟩;exact Aj;exact Cd)⟩
theorem ic0:IC I0:=fun ψ H ψ' H' e h=>⟨⟨by rw [(e kS Ak).2];exact h.1.1,by rw [(e kX Aj).2];exact h.1.2⟩,fun c=>⟨by rw [(e (kR c) Cc).2];exact (h.2 c).1,by rw [(e (kQ c) Cd).2];exact (h.2 c).2⟩⟩
theorem St.to (hI:IC I) {ψ:Ks→aD} {H:Ks→aX} {w':World} {φ':aD} {a':Act} (hi:I ψ H) (m:Mv Λ w0 (·=kC) w ψ H w' (up ψ kC φ') (up H kC S'.h)) (hs:Sim NTl w' (up ψ kC φ' kC) (Lt Λ (up ψ kC φ') kC) S' a'):St Λ w0 I S' w' a':=
 ⟨_,_,m.ps,hI _ _ _ _ (fun k hk=>m.same k hk) hi,aB,hs⟩
theorem St.run {c:Code} {e:AExit} (h:St Λ w0 I S w a) (hI:IC I) (hw:AWp Tryz.prog NTl c (fun x s=>x=e∧Weak s S') S) (hl:∀ id ob,S'.h id=some ob→ob.lev 0=true) {QQ:Exit→Act→World→Prop} (next:∀ w' a',St Λ w0 I S' w' a'→QQ e.conc a' w'):c.wp Tryz.prog QQ a w:=by
 obtain ⟨ψ,H,p,hi,he,hs⟩:=h;refine p.run kC hw hs (fun ae s=>ae=e∧s=S') (fun ae s' q=>⟨S',q.2,⟨q.1,rfl⟩,hl⟩) fun ae s' w' φ' a' hr hs' m=>?_
 obtain ⟨rfl,rfl⟩:=hr;exact next w' a' (St.to hI hi m hs')
theorem St.ops {ops:Array Oper} {l:List Nat} (h:St Λ w0 I S w a) (hI:IC I) (hw:AOps Tryz.prog NTl ops (fun x s=>x=.normal∧Weak s S') l S) (hl:∀ id ob,S'.h id=some ob→ob.lev 0=true) {QQ:Exit→Act→World→Prop} (next:∀ w' a',St Λ w0 I S' w' a'→QQ .normal a' w'):wpOps Tryz.prog ops QQ l a w:=by
 obtain ⟨ψ,H,p,hi,he,hs⟩:=h;refine p.ops kC hw hs (fun ae s=>ae=.normal∧s=S') (fun ae s' q=>⟨S',q.2,⟨q.1,rfl⟩,hl⟩) fun ae s' w' φ' a' hr hs' m=>?_
 obtain ⟨rfl,rfl⟩:=hr;exact next w' a' (St.to hI hi m hs')
theorem St.pre {ops:Array Oper} {pre rest:List Nat} (h:St Λ w0 I S w a) (hI:IC I) (hw:Go1 Tryz.prog NTl ops pre S S') (hl:∀ id ob,S'.h id=some ob→ob.lev 0=true) {QQ:Exit→Act→World→Prop} (next:∀ w' a',St Λ w0 I S' w' a'→wpOps Tryz.prog ops QQ rest a' w'):wpOps Tryz.prog ops QQ (pre++rest) a w:=by
 obtain ⟨ψ,H,p,hi,he,hs⟩:=h;exact p.pre kC hw hs hl fun w' φ' a' hs' m=>next w' a' (St.to hI hi m hs')
theorem St.wpo {ops:Array Oper} {i:Nat} {o:Oper} {K:Act→World→Prop} {QQ:Exit→Act→World→Prop} (h:St Λ w0 I S w a) (hI:IC I) (hi:ops[i]?=some o) (hg:o.guard=none) (ho:OpOk Tryz.prog NTl o S S') (hl:∀ id ob,S'.h id=some ob→ob.lev 0=true) (next:∀ w' a',St Λ w0 I S' w' a'→K a' w'):wpOp Tryz.prog ops QQ i K a w:=by
 obtain ⟨ψ,H,p,hii,he,hs⟩:=h;simp only [wpOp,hi,Region.wanted,hg,if_true];exact .inl (ho _ w _ a hs _ _ fun w' φ' a' hs' g=>next w' a' (St.to hI hii (p.step g hs'.hs hl) (by rw [aB,Lt.up];exact hs')))
theorem St.weak (h:St Λ w0 I S w a) (hI:IC I) (hw:Weak S S') (hl:∀ id ob,S'.h id=some ob→ob.lev 0=true):St Λ w0 I S' w a:=by
 obtain ⟨ψ,H,p,hi,he,hs⟩:=h;obtain ⟨φ',hs',g⟩:=hw _ _ w _ a hs;exact St.to hI hi (p.step g hs'.hs hl) (by rw [aB,Lt.up];exact hs')
theorem St.drew (h:St Λ w0 I S w a) (hI:IC I) (hl:∀ id ob,S.h id=some ob→ob.lev 0=true):St Λ w0 I S w.drew a:=by
 obtain ⟨ψ,H,p,hi,he,hs⟩:=h;exact St.to hI hi (p.step (gR w _) hs.drew.hs hl) (by rw [aB,Lt.up];exact hs.drew)
theorem St.put {d:Nat} {x:AV} {v:Value} (h:St Λ w0 I S w a) (hd:Nat.blt d NTl=true) (hx:∀ ψ,Sim NTl w (ψ kC) (Lt Λ ψ kC) S a→Rep w (ψ kC) (Lt Λ ψ kC) x v):St Λ w0 I (S.put (some d) x) w (a.put (some d) v):=by
 obtain ⟨ψ,H,p,hi,he,hs⟩:=h;exact ⟨ψ,H,p,hi,he,hs.put (some d) hd (hx ψ hs)⟩
theorem St.feedS {x0 x1 x2 x3:Operand} {c a':Int} {b:List UInt8} {vals:Array Value} {d:Nat} {QQ:Ending→World→Prop} (h:St Λ w0 (I2 t bs bx N σ τ) S w a) (hl:∀ i,(S.t i).lev 0=true) (hv:vals=#[a.eval x0,a.eval x1,a.eval x2,a.eval x3]) (e0:S.ev x0=pp bs) (e1:S.ev x1=i64 c) (e2:S.ev x2=i64 a') (e3:S.ev x3=.fz 0 b.length (cl bc b))
 (ht:cx t) (hb:b.length≤1073741824) (hd:Nat.blt d NTl=true) (next:∀ w' v,St Λ w0 (I2 t bs bx N (fσ t a' σ c b) τ) (S.put (some d) (fR (fO t a' (σ c) b) (fE t a'))) w' (a.put (some d) v)→QQ (.returned v) w'):Calls Tryz.prog 11 vals w QQ:=by
 obtain ⟨ψ,H,p,hi,he,hs⟩:=h;rw [hv,cc hs (show S.ev _=.v _ from e0),cc hs (show S.ev _=.v _ from e1),cc hs (show S.ev _=.v _ from e2)];exact Fw.feedS p hi.1 ht hb (e3▸hs.ev x3) fun w' ψ' H' v m hI hr=>next w' v ⟨ψ',H',m.ps,⟨hI,hi.2.frame fun k hk=>m.same k (nXS hk)⟩,((m.same kC nCS).2).trans he,(m.sim nCS hs he hl).put (some d) hd hr⟩
theorem St.feedX {x0 x1 x2 x3:Operand} {c a':Int} {b:List UInt8} {vals:Array Value} {d:Nat} {QQ:Ending→World→Prop} (h:St Λ w0 (I2 t bs bx N σ τ) S w a) (hl:∀ i,(S.t i).lev 0=true) (hN:N≤1000) (hv:vals=#[a.eval x0,a.eval x1,a.eval x2,a.eval x3]) (e0:S.ev x0=pp bx) (e1:S.ev x1=i64 c) (e2:S.ev x2=i64 a') (e3:S.ev x3=.fz 0 b.length (cl bc b))
 (ht:cx t) (hb:b.length≤1073741824) (hd:Nat.blt d NTl=true) (next:∀ w' v,St Λ w0 (I2 t bs bx (N+1) σ (fσ t a' τ c b)) (S.put (some d) (fR (fO t a' (τ c) b) (fE t a'))) w' (a.put (some d) v)→QQ (.returned v) w'):Calls Tryz.prog 12 vals w QQ:=by
 obtain ⟨ψ,H,p,hi,he,hs⟩:=h;rw [hv,cc hs (show S.ev _=.v _ from e0),cc hs (show S.ev _=.v _ from e1),cc hs (show S.ev _=.v _ from e2)];exact Fw.feedX p hi.2 hN ht hb (e3▸hs.ev x3) fun w' ψ' H' v m hI hr=>next w' v ⟨ψ',H',m.ps,⟨hi.1.frame fun k hk=>m.same k (nSX hk),hI⟩,((m.same kC nCX).2).trans he,(m.sim nCX hs he hl).put (some d) hd hr⟩
theorem St.forgetS {x0 x1:Operand} {c:Int} {vals:Array Value} {d:Nat} {QQ:Ending→World→Prop} (h:St Λ w0 (I2 t bs bx N σ τ) S w a) (hl:∀ i,(S.t i).lev 0=true) (hv:vals=#[a.eval x0,a.eval x1]) (e0:S.ev x0=pp bs) (e1:S.ev x1=i64 c)
 (hd:Nat.blt d NTl=true) (next:∀ w' v,St Λ w0 (I2 t bs bx N (jZ σ c none) τ) (S.put (some d) (i64 (gE (σ c)))) w' (a.put (some d) v)→QQ (.returned v) w'):Calls Tryz.prog 8 vals w QQ:=by
 obtain ⟨ψ,H,p,hi,he,hs⟩:=h;rw [hv,cc hs (show S.ev _=.v _ from e0),cc hs (show S.ev _=.v _ from e1)];exact Fw.forgetS p hi.1 fun w' ψ' H' v m hI hr=>next w' v ⟨ψ',H',m.ps,⟨hI,hi.2.frame fun k hk=>m.same k (nXS hk)⟩,((m.same kC nCS).2).trans he,(m.sim nCS hs he hl).put (some d) hd (by rw [hr];exact .v)⟩
theorem St.forgetX {x0 x1:Operand} {c:Int} {vals:Array Value} {d:Nat} {QQ:Ending→World→Prop} (h:St Λ w0 (I2 t bs bx N σ τ) S w a) (hl:∀ i,(S.t i).lev 0=true) (hN:N≤1000) (hv:vals=#[a.eval x0,a.eval x1]) (e0:S.ev x0=pp bx) (e1:S.ev x1=i64 c)
 (hd:Nat.blt d NTl=true) (next:∀ w' v,St Λ w0 (I2 t bs bx N σ (jZ τ c none)) (S.put (some d) (i64 (gE (τ c)))) w' (a.put (some d) v)→QQ (.returned v) w'):Calls Tryz.prog 9 vals w QQ:=by
 obtain ⟨ψ,H,p,hi,he,hs⟩:=h;rw [hv,cc hs (show S.ev _=.v _ from e0),cc hs (show S.ev _=.v _ from e1)];exact Fw.forgetX p hi.2 hN fun w' ψ' H' v m hI hr=>next w' v ⟨ψ',H',m.ps,⟨hi.1.frame fun k hk=>m.same k (nSX hk),hI⟩,((m.same kC nCX).2).trans he,(m.sim nCX hs he hl).put (some d) hd (by rw [hr];exact .v)⟩
end
theorem gP {P:Program} {ops:Array Oper} {i:Nat} {K:Act→World→Prop} {o:Oper} {f:FuncId} {fn:Func} {c:Code} {fop:Operand} {argops:Array Operand} {tys:Array TypeId} {a:Act} {w:World} {QQ:Exit→Act→World→Prop} (hb:wC P f fn c)
 (hi:ops[i]?=some o) (hg:o.guard=none) (ho:o.op=.call { callee:=.value fop,args:=argops,argTypes:=tys }) (hf:a.eval fop=.func (.func f) #[] #[])
 (h:Calls P f (argops.map a.eval) w (fun e w'=>match e with
  | .returned v=>K (a.put o.dst v) w'
  | .panicked chain=>QQ (.panic chain) a w'
  | .outgrown=>False)):wpOp P ops QQ i K a w:=by
 simp only [wpOp,hi,Region.wanted,hg,if_true];refine .inl ?_;unfold Oper.wp;rw [fQ hb ho hf];have e:(#[]++argops.map a.eval++#[]:Array Value)=argops.map a.eval:=by simp
 rw [e];refine Calls.mono h ?_;intro e w' k;cases e with
 | returned v=>exact k
 | panicked chain=>exact k
 | outgrown=>exact k.elim
theorem rA {ops:Array Oper} {o:Oper} {x:Operand} {a:Act} (ho:o.op=.move x) (hg:o.guard=none):Yields Tryz.prog ops o (a.eval x) a:=
 .inl ⟨by simp [Region.wanted,hg],fun w=>by simp [execOp,ho]⟩
theorem rB {ops:Array Oper} {o:Oper} {t ft:TypeId} {x:Operand} {f off:Nat} {l:List (Nat×TypeId)} {ti tj:TI} {a:Act} {b oo:Nat} (ho:o.op=.fieldAddr t x f) (hg:o.guard=none) (ht:te.get t=some ti) (hk:ti.k=.struct l) (hf:l[f]?=some (off,ft)) (hj:te.get ft=some tj) (hp:0<tj.size)
 (hv:a.eval x=.pointer (some ⟨b,oo,none⟩)):Yields Tryz.prog ops o (.pointer (some ⟨b,oo+off,none⟩)) a:=by
 obtain ⟨fs,fd,h1,h2,h3,h4⟩:=jb (te_ok.tells ht) hk hf;subst h4;exact .inl ⟨by simp [Region.wanted,hg],fun w=>by simp [execOp,ho,hv,Instr.fieldAt,run_underlying h1,h2,Instr.sureAddr,gU (te_ok.tells hj) hp,h3]⟩
noncomputable def q20:Code:=(fC (fC (tC (sC (fC (sC (sC (lC (fC (sC (sC (lC (lC (sC (fC (sC (sC (sC (sC (sC (sC zB)))))))))))))))))))))
noncomputable def q4:Code:=(sC (fC (sC (sC (sC (sC (sC (sC zB))))))))
noncomputable def b4:Code:=(lC (lC (sC (fC (sC (sC (sC (sC (sC (sC zB))))))))))
noncomputable def q6:Code:=(sC (sC (sC (sC (sC (sC (lC (fC (sC (sC (lC (lC (sC (fC (sC (sC (sC (sC (sC (sC zB))))))))))))))))))))
noncomputable def b6:Code:=(lC (lC (sC (sC (sC (sC (sC (sC (lC (fC (sC (sC (lC (lC (sC (fC (sC (sC (sC (sC (sC (sC zB))))))))))))))))))))))
section
variable {Λ:aW} {w0:Base} {w:World} {t:Tr} {bs bx N:Nat} {σ τ:Int→Option (List UInt8)} {l:List DoS} {i:Nat} {a:Act} {QQ:Exit→Act→World→Prop}
theorem Gb {f:Bool} (h:St Λ w0 (I2 t bs bx N σ σ) (Y17 bs bx l i [(91,tf f)]) w a) (hN:N≤1000)
 (next:∀ w' a',St Λ w0 (I2 t bs bx N (jZ σ (l.getD i default).c none) (jZ σ (l.getD i default).c none)) (Y10 bs bx l i [(100,tf false)]) w' a'→QQ .normal a' w'):q20.wp Tryz.prog QQ a w:=by
 refine wp_mono (Q:=fun e a w=>e=.normal∧QQ .normal a w) ?_ (fun e a w h=>h.1▸h.2);refine wp_region_any cE ?_;have h0:=h.drew ic2 (ax rfl);obtain ⟨b,hb⟩:∃ b,a.tmps.getD 15 undef=.pointer (some ⟨b,0,none⟩):=by
  obtain ⟨ψ,H,p,hi,he,hs⟩:=h;obtain ⟨b,hl⟩:=oy hs.hs (id:=1803) rfl;exact ⟨b,wU hl (hs.tmps 15)⟩
 obtain ⟨f8,c8,hb8⟩:=(kO t [] 0 rfl (fun _ h=>by cases h)).1;obtain ⟨f9,c9,hb9⟩:=(kL t [] 0 0 (by decide) (fun _ h=>by cases h) (fun _ h=>by cases h)).1;change wpAny Tryz.prog .any (oC q20) _ 9 (Array.replicate 9 false) a w.drew;refine wpAny_take (i:=0) rfl (by kernel_rfl) (by kernel_rfl) (by kernel_rfl) (fun c a w h=>by cases h.1) (rA (x:=.tmp 6) rfl rfl) ?_;have h1:=h0.put (d:=92) (x:=pp bs) rfl (fun ψ hs=>hs.tmps 6);have e1:(a.put (some 92) (a.eval (.tmp 6))).tmps.getD 15 undef=.pointer (some ⟨b,0,none⟩):=(sM (by decide)).trans hb;refine wpAny_take (i:=1) rfl (by kernel_rfl) (by kernel_rfl) (by kernel_rfl) (fun c a w h=>by cases h.1) (rB (x:=.tmp 15) rfl rfl rfl rfl rfl rfl (aE rfl) e1) ?_;have h2:=h1.put (d:=93) (x:=.ptr 1803 0 0) (v:=.pointer (some ⟨b,0,none⟩)) rfl (fun ψ hs=>e1▸hs.tmps 15);refine wpAny_take (i:=4) rfl (by kernel_rfl) (by kernel_rfl) (by kernel_rfl) (fun c a w h=>by cases h.1) (rA (x:=.tmp 8) rfl rfl) ?_;have h3:=h2.put (d:=96) (x:=pp bx) rfl (fun ψ hs=>hs.tmps 8);have e3:(((a.put (some 92) (a.eval (.tmp 6))).put (some 93) (.pointer (some ⟨b,0,none⟩))).put (some 96) (((a.put (some 92) (a.eval (.tmp 6))).put (some 93) (.pointer (some ⟨b,0,none⟩))).eval (.tmp 8))).tmps.getD 15 undef=.pointer (some ⟨b,0,none⟩):=(sM (by decide)).trans ((sM (by decide)).trans e1);refine wpAny_take (i:=5) rfl (by kernel_rfl) (by kernel_rfl) (by kernel_rfl) (fun c a w h=>by cases h.1) (rB (x:=.tmp 15) rfl rfl rfl rfl rfl rfl (aE rfl) e3) ?_;have h4:=h3.put (d:=97) (x:=.ptr 1803 0 0) (v:=.pointer (some ⟨b,0,none⟩)) rfl (fun ψ hs=>e3▸hs.tmps 15);refine wpAny_all (rs:=[2,6]) (by kernel_rfl) (by decide) fun i hi=>?_
 simp only [List.mem_cons,List.not_mem_nil,or_false] at hi;rcases hi with rfl|rfl
 · refine h4.wpo ic2 rfl rfl (bb (z:=i64 (l.getD _ default).c) (hy:=rfl)) (by exact ax rfl) fun w5 a5 h5=>?_
   refine wpAny_all (rs:=[3,6]) (by kernel_rfl) (by decide) fun i hi=>?_
   simp only [List.mem_cons,List.not_mem_nil,or_false] at hi;rcases hi with rfl|rfl
   · refine gP hb8 rfl rfl rfl rfl ?_
     refine h5.forgetS (x0:=.tmp 92) (x1:=.tmp 94) (d:=95) (by repeat' (first|exact dq rfl|refine ix ?_ rfl)) (by rw [List.map_toArray];rfl) rfl rfl rfl fun w6 v6 h6=>?_
     refine wpAny_all (rs:=[6]) (by kernel_rfl) (by decide) fun i hi=>?_
     obtain rfl:=List.mem_singleton.1 hi;refine h6.wpo ic2 rfl rfl (bb (z:=i64 (l.getD _ default).c) (hy:=rfl)) (by exact ax rfl) fun w7 a7 h7=>?_
     refine wpAny_all (rs:=[7]) (by kernel_rfl) (by decide) fun i hi=>?_
     obtain rfl:=List.mem_singleton.1 hi;refine gP hb9 rfl rfl rfl rfl ?_;refine h7.forgetX (x0:=.tmp 96) (x1:=.tmp 98) (d:=99) (by repeat' (first|exact dq rfl|refine ix ?_ rfl)) hN (by rw [List.map_toArray];rfl) rfl rfl rfl fun w8 v8 h8=>?_
     refine wpAny_all (rs:=[8]) (by kernel_rfl) (by decide) fun i hi=>?_
     obtain rfl:=List.mem_singleton.1 hi;refine h8.wpo ic2 rfl rfl (OpOk.dec_f (gV) (fun k=>k rfl)) (by exact ax rfl) fun w9 a9 h9=>?_
     exact wpAny_done (by kernel_rfl) ⟨rfl,next w9 a9 (h9.weak ic2 (Weak.full 0 []) (ax rfl))⟩ _
   · refine h5.wpo ic2 rfl rfl (bb (z:=i64 (l.getD _ default).c) (hy:=rfl)) (by exact ax rfl) fun w6 a6 h6=>?_
     refine wpAny_all (rs:=[3]) (by kernel_rfl) (by decide) fun i hi=>?_
     obtain rfl:=List.mem_singleton.1 hi;refine gP hb8 rfl rfl rfl rfl ?_;refine h6.forgetS (x0:=.tmp 92) (x1:=.tmp 94) (d:=95) (by repeat' (first|exact dq rfl|refine ix ?_ rfl)) (by rw [List.map_toArray];rfl) rfl rfl rfl fun w7 v7 h7=>?_
     refine wpAny_all (rs:=[7]) (by kernel_rfl) (by decide) fun i hi=>?_
     obtain rfl:=List.mem_singleton.1 hi;refine gP hb9 rfl rfl rfl rfl ?_;refine h7.forgetX (x0:=.tmp 96) (x1:=.tmp 98) (d:=99) (by repeat' (first|exact dq rfl|refine ix ?_ rfl)) hN (by rw [List.map_toArray];rfl) rfl rfl rfl fun w8 v8 h8=>?_
     refine wpAny_all (rs:=[8]) (by kernel_rfl) (by decide) fun i hi=>?_
     obtain rfl:=List.mem_singleton.1 hi;refine h8.wpo ic2 rfl rfl (OpOk.dec_f (gV) (fun k=>k rfl)) (by exact ax rfl) fun w9 a9 h9=>?_
     exact wpAny_done (by kernel_rfl) ⟨rfl,next w9 a9 (h9.weak ic2 (Weak.full 0 []) (ax rfl))⟩ _
 · refine h4.wpo ic2 rfl rfl (bb (z:=i64 (l.getD _ default).c) (hy:=rfl)) (by exact ax rfl) fun w5 a5 h5=>?_
   refine wpAny_all (rs:=[2]) (by kernel_rfl) (by decide) fun i hi=>?_
   obtain rfl:=List.mem_singleton.1 hi;refine h5.wpo ic2 rfl rfl (bb (z:=i64 (l.getD _ default).c) (hy:=rfl)) (by exact ax rfl) fun w6 a6 h6=>?_
   refine wpAny_all (rs:=[3]) (by kernel_rfl) (by decide) fun i hi=>?_
   obtain rfl:=List.mem_singleton.1 hi;refine gP hb8 rfl rfl rfl rfl ?_;refine h6.forgetS (x0:=.tmp 92) (x1:=.tmp 94) (d:=95) (by repeat' (first|exact dq rfl|refine ix ?_ rfl)) (by rw [List.map_toArray];rfl) rfl rfl rfl fun w7 v7 h7=>?_
   refine wpAny_all (rs:=[7]) (by kernel_rfl) (by decide) fun i hi=>?_
   obtain rfl:=List.mem_singleton.1 hi;refine gP hb9 rfl rfl rfl rfl ?_;refine h7.forgetX (x0:=.tmp 96) (x1:=.tmp 98) (d:=99) (by repeat' (first|exact dq rfl|refine ix ?_ rfl)) hN (by rw [List.map_toArray];rfl) rfl rfl rfl fun w8 v8 h8=>?_
   refine wpAny_all (rs:=[8]) (by kernel_rfl) (by decide) fun i hi=>?_
   obtain rfl:=List.mem_singleton.1 hi;refine h8.wpo ic2 rfl rfl (OpOk.dec_f (gV) (fun k=>k rfl)) (by exact ax rfl) fun w9 a9 h9=>?_
   exact wpAny_done (by kernel_rfl) ⟨rfl,next w9 a9 (h9.weak ic2 (Weak.full 0 []) (ax rfl))⟩ _
end
section
variable {Λ:aW} {w0:Base} {w:World} {t:Tr} {bs bx N:Nat} {σ τ:Int→Option (List UInt8)} {l:List DoS} {i:Nat} {a:Act} {QQ:Exit→Act→World→Prop}
theorem BT {W:List UInt8} {n j:Nat} (hW:W.length≤1073741824):(pAt W n j).length≤1073741824:=by
 unfold pAt
 match j with
 | 0=>show (W.take n).length≤_;rw [List.length_take];omega
 | 1=>show (W.drop n).length≤_;rw [List.length_drop];omega
 | j+2=>show ([]:List UInt8).length≤_;simp
theorem Ga {W:List UInt8} {n:Nat} (h:St Λ w0 (I2 t bs bx N σ σ) (Y17 bs bx l i (yP W n 0 [])) w a) (hN:N+2≤1000) (ht:cx t) (hW:W.length≤1073741824)
 (next:∀ σ' w' a',St Λ w0 (I2 t bs bx (N+2) σ' σ') (Y10 bs bx l i []) w' a'→QQ .normal a' w'):q6.wp Tryz.prog QQ a w:=by
 have e6:q6=Code.block 6 (Code.loop b6):=rfl;rw [e6];refine wp_block ?_;refine wp_loop_ghost (fun m a w=>∃ j σ',j≤2∧m=2-j∧St Λ w0 (I2 t bs bx (N+j) σ' σ') (Y17 bs bx l i (yP W n j [])) w a) 2 ⟨0,σ,by omega,rfl,h⟩ ?_;rintro m a1 w1 ⟨j,σ1,hj,rfl,h1⟩;have hP:=BT (n:=n) (j:=j) hW;by_cases hj2:j<2
 · refine wp_seq (h1.run ic2 (FQ bs bx l i W n j hj2) (ax rfl) fun w2 a2 h2=>?_)
   refine wp_seq (h2.run ic2 (DQ bs bx l i W n j) (ax rfl) fun w3 a3 h3=>?_);refine wp_seq (wp_block ?_);refine wp_seq (h3.run ic2 (zp26 bs bx l i W n j hj2) (ax rfl) fun w4 a4 h4=>?_);refine wp_seq (wp_region ?_);change wpOps Tryz.prog (oC (fC (sC (lC (fC (sC (sC (lC (lC (sC (sC (sC (sC (sC (sC (lC (fC (sC (sC (lC (lC (sC (fC (sC (sC (sC (sC (sC (sC zB))))))))))))))))))))))))))))) _ ([0,1,2,3,4,5]++[6,7,8,9,10,11]) a4 w4;refine h4.pre ic2 (FP bs bx l i W n j) (ax rfl) fun w5 a5 h5=>?_
   refine dy (fn:=Tryz.f11) ⟨Tryz.func11,rfl,rfl⟩ rfl rfl rfl rfl ?_;refine h5.feedS (x0:=.tmp 125) (x1:=.tmp 127) (x2:=.tmp 129) (x3:=.tmp 130) (d:=131) (dq rfl) (by rw [List.map_toArray];rfl) rfl rfl rfl rfl ht hP rfl fun w6 v6 h6=>?_
   refine h6.ops ic2 (FO bs bx l i W n j _ _) (ax rfl) fun w7 a7 h7=>?_
   refine wp_seq (wp_region ?_);change wpOps Tryz.prog (oC (fC (sC (sC (lC (fC (sC (sC (lC (lC (sC (sC (sC (sC (sC (sC (lC (fC (sC (sC (lC (lC (sC (fC (sC (sC (sC (sC (sC (sC zB)))))))))))))))))))))))))))))) _ ([0,1,2,3,4,5]++[6,7,8,9,10,11]) a7 w7;refine h7.pre ic2 (FN bs bx l i W n j _ _) (ax rfl) fun w8 a8 h8=>?_
   refine dy (fn:=Tryz.f12) ⟨Tryz.func12,rfl,rfl⟩ rfl rfl rfl rfl ?_;refine h8.feedX (x0:=.tmp 135) (x1:=.tmp 137) (x2:=.tmp 139) (x3:=.tmp 140) (d:=141) (dq rfl) (by omega) (by rw [List.map_toArray];rfl) rfl rfl rfl rfl ht hP rfl fun w9 v9 h9=>?_
   refine h9.ops ic2 (FM bs bx l i W n j _ _) (ax rfl) fun w10 a10 h10=>?_
   refine wp_seq (h10.run ic2 (zp29 bs bx l i W n j _ _) (ax rfl) fun w11 a11 h11=>?_);refine h11.run ic2 (G2 bs bx l i W n j) (ax rfl) fun w12 a12 h12=>?_
   refine h12.run ic2 (zp31 bs bx l i W n j hj2) (ax rfl) fun w13 a13 h13=>?_
   exact ⟨2-(j+1),by omega,j+1,_,by omega,rfl,h13⟩
 · obtain rfl:j=2:=by omega
   refine wp_seq (h1.run ic2 (FR bs bx l i W n 2 hj2) (ax rfl) fun w2 a2 h2=>?_);refine wp_seq (h2.run ic2 (DR bs bx l i) (ax rfl) fun w3 a3 h3=>?_);exact next σ1 w3 a3 h3
theorem E6 (h:St Λ w0 (I2 t bs bx 0 σ0 σ0) (Y10 bs bx l 0 []) w a) (ht:cx t) (hl:∀ d∈l,vF d)
 (next:∀ N σ w' a',N≤1000→St Λ w0 (I2 t bs bx N σ σ) (YE bs bx) w' a'→QQ .normal a' w'):q4.wp Tryz.prog QQ a w:=by
 have e4:q4=Code.block 4 (Code.loop b4):=rfl;rw [e4];refine wp_block ?_;refine wp_loop_ghost (fun m a w=>∃ i N σ,i≤31∧i≤l.length∧N≤2*i∧m=31-i∧St Λ w0 (I2 t bs bx N σ σ) (Y10 bs bx l i []) w a) 31 ⟨0,0,σ0,by omega,by omega,by omega,rfl,h⟩ ?_;rintro m a1 w1 ⟨i,N,σ1,hi,hil,hN,rfl,h1⟩;by_cases hi2:i<l.length
 · have hd:vF (l.getD i default):=hl _ (aq hi2)
   have hW:(byO (l.getD i default).b (l.getD i default).m).length≤1073741824:=by
    have h1:=hd.1;have h2:=nO (dI (l.getD i default).m);unfold byO;split<;>omega
   refine wp_seq (h1.run ic2 (FU bs bx l i hi2) (ax rfl) fun w2 a2 h2=>?_);refine wp_seq (h2.run ic2 (G0 bs bx l i) (ax rfl) fun w3 a3 h3=>?_);refine wp_seq (wp_block ?_);refine wp_seq (h3.run ic2 (zp17 bs bx l i hi2) (ax rfl) fun w4 a4 h4=>?_);by_cases hi3:i≤30
   · have fin:∀ N' σ' w' a',N'≤2*(i+1)→St Λ w0 (I2 t bs bx N' σ' σ') (Y10 bs bx l i []) w' a'→((sC (sC (sC (lC (lC (sC (fC (sC (sC (sC (sC (sC (sC zB)))))))))))))).wp Tryz.prog (Exit.then (fun a w=>∃ m',m'<31-i∧∃ i N σ,i≤31∧i≤l.length∧N≤2*i∧m'=31-i∧St Λ w0 (I2 t bs bx N σ σ) (Y10 bs bx l i []) w a) (Exit.inBlock 4 QQ)) a' w':=fun N' σ' w' a' hN' h'=>h'.run ic2 (zp32 bs bx l i hi3) (ax rfl) fun w2 a2 h2=>⟨31-(i+1),by omega,i+1,N',σ',by omega,by omega,hN',rfl,h2⟩
     refine wp_seq (wp_seq (h4.run ic2 (FT bs bx l i hi3) (ax rfl) fun w5 a5 h5=>?_));refine h5.run ic2 (FZ bs bx l i) (ax rfl) fun w6 a6 h6=>?_
     refine wp_seq (wp_seq (h6.run ic2 (zp19 bs bx l i) (ax rfl) fun w7 a7 h7=>?_));obtain ⟨v91,e91⟩:∃ b,b=(l.getD i default).f:=⟨_,rfl⟩;have hv:a7.eval (.tmp 91)=.bool v91:=by
      obtain ⟨ψ,H,p,_,_,hs⟩:=h7;rw [e91];exact cc hs (show AS.ev _ (.tmp 91)=.v _ from rfl)
     refine wp_cond_split hv (fun _=>?_) (fun _=>?_)
     · refine wp_seq (wp_seq (Gb h7 (by omega) fun w8 a8 h8=>?_))
       refine h8.run ic2 (G3 bs bx l i) (ax rfl) fun w9 a9 h9=>?_
       refine wp_exit ?_;exact fin N _ w9 a9 (by omega) h9
     · refine wp_skip ?_
       have h8:=h7.weak ic2 (S':=Y17 bs bx l i []) (Weak.full 0 []) (ax rfl);refine wp_seq (h8.run ic2 (zp22 bs bx l i hd) (ax rfl) fun w9 a9 h9=>?_);refine wp_seq (h9.run ic2 (zp23 bs bx l i hW) (ax rfl) fun w10 a10 h10=>?_);have hn:Int.toNat ((l.getD i default).k%18446744073709551616%(((byO (l.getD i default).b (l.getD i default).m).length:Int)+1))≤(byO (l.getD i default).b (l.getD i default).m).length:=by
        have h1:=Int.emod_nonneg ((l.getD i default).k%18446744073709551616) (show (((byO (l.getD i default).b (l.getD i default).m).length:Int)+1)≠0 by omega);have h2:=Int.emod_lt_of_pos ((l.getD i default).k%18446744073709551616) (show 0<(((byO (l.getD i default).b (l.getD i default).m).length:Int)+1) by omega);omega
       refine wp_seq (h10.run ic2 (zp24 bs bx l i _ _ hn) (ax rfl) fun w11 a11 h11=>?_);refine Ga h11 (by omega) ht hW fun σ' w12 a12 h12=>?_
       exact fin (N+2) σ' w12 a12 (by omega) h12
   · refine wp_seq (wp_seq (h4.run ic2 (FS bs bx l i hi3) (ax rfl) fun w5 a5 h5=>?_))
     refine h5.run ic2 (FY bs bx) (ax rfl) fun w6 a6 h6=>?_
     exact next N σ1 w6 a6 (by omega) h6
 · refine wp_seq (h1.run ic2 (FV bs bx l i hi2) (ax rfl) fun w2 a2 h2=>?_)
   refine wp_seq (h2.run ic2 (G1 bs bx) (ax rfl) fun w3 a3 h3=>?_);exact next N σ1 w3 a3 (by omega) h3
end
theorem pR {n:Nat} {w w':World} {φ φ':aD} {Λ:aW} {s:AS} {a:Act} (hs:Sim n w φ Λ s a) (g:Goes w (fun _=>none) w' φ'):Sim n w' φ Λ s a∧Goes w φ w' φ:=by
 have hkeep:∀ b,b<w.heap.size→w'.heap[b]?=w.heap[b]?:=fun b hb=>g.keep b hb fun h1=>aI h1
 have st:Stays w φ w' φ:=⟨fun id l h=>⟨l,h,.inl rfl⟩,fun id l h1 _ b oo arr T m h2 h3=>⟨arr,T,m,by rw [hkeep b (hs.hs.lt _ _ _ _ h1 h2).1];exact h3,Nat.le_refl _⟩⟩;have g2:Goes w φ w' φ:=⟨fun b hb _=>hkeep b hb,g.size,fun _ h=>.inl h,g.os,g.tape,g.output,st.pin,g.fro⟩;refine ⟨⟨hs.defs,hs.size,fun i=>(hs.tmps i).goes g2 st,⟨fun id ob h=>?_,hs.hs.dom,fun id l b oo h1 h2=>?_,hs.hs.inj,fun k b h=>Nat.lt_of_lt_of_le (hs.hs.lent k b h) g.size⟩⟩,g2⟩
 · obtain ⟨l,h1,h2⟩:=hs.hs.heap id ob h
   exact ⟨l,h1,h2.goes g2 st fun b oo h3=>hkeep b (hs.hs.lt _ _ _ _ h1 h3).1⟩
 · obtain ⟨h3,h4⟩:=hs.hs.lt id l b oo h1 h2
   exact ⟨Nat.lt_of_lt_of_le h3 g.size,h4⟩
theorem Da {w:World} {φ:aD} {Λ:aW} {x y:AV} {v:Value} (h:Rep w φ Λ (.agg [x,y]) v):∃ u0 u1,v=.agg #[u0,u1]∧Rep w φ Λ x u0∧Rep w φ Λ y u1:=by
 cases h with
 | @agg _ vs vf h1 h2 h3=>
  refine ⟨vf 0,vf 1,?_,h3 0 _ rfl,h3 1 _ rfl⟩;congr 1;refine Array.ext_getElem? fun j=>?_
  match j with
  | 0=>rw [h2 0 (by simp)];rfl
  | 1=>rw [h2 1 (by simp)];rfl
  | j+2=>rw [Array.getElem?_eq_none (by rw [h1];simp)];rfl
theorem Gh {w:World} {φ:aD} {Λ:aW} {u0 u1:Value}:Rep w φ Λ (.agg [.v u0,.v u1]) (.agg #[u0,u1]):=
 .agg (fun j=>#[u0,u1].getD j undef) rfl (fun j hj=>by
  match j,hj with
  | 0,_=>rfl
  | 1,_=>rfl) (fun j c hj=>by
  match j,hj with
  | 0,hj=>cases hj;exact .v
  | 1,hj=>cases hj;exact .v)
theorem z8 {w:World} {φ:aD} {Λ:aW} {u0 u1 v:Value} (h:Rep w φ Λ (.agg [.v u0,.v u1]) v):v=.agg #[u0,u1]:=by
 obtain ⟨a,b,rfl,h1,h2⟩:=Da h;rw [pn h1,pn h2]
theorem uM {w w':World} {B:Nat→Prop} {x:AV} {v:Value} (keep:∀ b,B b→w'.heap[b]?=w.heap[b]?) (h:Rep w (fun _=>none) (GB B) x v) (hx:x.lev 0=true) {φ:aD} {Λ:aW} (M:∀ b,B b→may φ Λ 0 b):Rep w' φ Λ x v:=by
 have hB:∀ b,may (fun _=>none) (GB B) 0 b→B b:=fun b hm=>Classical.byContradiction fun n=>hm.2 1 Nat.one_pos ⟨rfl,n⟩
 exact h.mv (fun _ _ h=>by cases h) (fun b _ ho=>(aI ho).elim) (fun b _ hm=>keep b (hB b hm)) (fun b _ hm=>M b (hB b hm)) hx
theorem o6 {B:Nat→Prop}:∀ b,B b→may (fun _=>none) (GB B) 0 b:=fun b hb=>⟨fun h=>aI h,fun j _ h=>h.2 hb⟩
theorem tV {w:World} {φ φ':aD} {Λ Λ':aW} {t:Tr} {v:Value} (h:∀ b,b<w.heap.size→may φ Λ 0 b→may φ' Λ' 1 b) (hr:Rep w φ Λ (.agg (trC t)) v):Rep w φ' Λ' (.agg (ja t)) v:=
 uX (cs:=trC t) (cs':=ja t) (fun r c' c h1 h2 u hu=>DV h t r c c' h2 h1 u hu) rfl hr
theorem qZ {w:World} {φ:aD} {Λ:aW} {x:AV} {v:Value} (h:Rep w φ Λ x v):eI w φ Λ [x] #[v]:=⟨rfl,fun j c hj=>match j,hj with
 | 0,hj=>by cases hj;exact ⟨_,rfl,h⟩
 | j+1,hj=>by cases hj⟩
theorem zb {w w':World} {φ φ':aD} {Λ Λ':aW} {b:Nat} {v:Value} (hb:Lies φ 8 b) (h:Rep w φ Λ (.tup [.ptr 8 0 0,i64 0]) v):Rep w' φ' Λ' (.tup [pp b,i64 0]) v:=by
 cases h with
 | tup vf h1 h2 h3=>
  refine .tup vf h1 h2 fun j c hj=>?_
  match j,hj with
  | 0,hj=>cases hj;rw [wU hb (h3 0 _ rfl)];exact .v
  | 1,hj=>cases hj;exact cD (h3 1 _ rfl)
def τ3 (i:Nat):Nat:=bif Nat.beq i 9 then 1 else 0
def LR (a b:Nat):aW:=fun k y=>k=1∧a≤y∧y<b
section
variable {Λ:aW} {w0:Base} {w:World} {t:Tr} {bs:Nat} {S:AS} {a:Act} {vg:Value} {d:Nat} {QQ:Ending→World→Prop}
theorem Bx (h:St Λ w0 I0 S w a) (hl:∀ i,(S.t i).lev 0=true) (hg:∀ ψ H,PS Λ w0 w ψ H→Rep w (ψ kS) (Lt Λ ψ kS) (.agg (ja t)) vg) (ht:cx t) (hc:dZ t=true) (hd:Nat.blt d NTl=true)
 (next:∀ bs w' v,St Λ w0 (I1 t bs) (S.put (some d) (.tup [pp bs,i64 0])) w' (a.put (some d) v)→QQ (.returned v) w'):Calls Tryz.prog 5 #[vg] w QQ:=by
 obtain ⟨ψ,H,p,hi,he,hs⟩:=h;refine p.call kS (args:=[.agg (ja t)]) (r:=.tup [.ptr 8 0 0,i64 0]) (hl:=[(8,.box [.fz 0 t.zs.length (cl zoC t.zs),.fz 0 t.ss.length (cl svC t.ss),.mp 9 0]),(9,.map (me cm idA []))]) (by rw [hi.1.1];exact wy t ht hc) (qZ (hg ψ H p)) rfl fun w2 φ2 v m2 g hr=>?_
 have hs2:HSim w2 φ2 (Lt Λ ψ kS) (ao [(8,.box [.fz 0 t.zs.length (cl zoC t.zs),.fz 0 t.ss.length (cl svC t.ss),.mp 9 0]),(9,.map (me cm idA []))]):=by
  have h:=m2.ps.parts.sim kS;rw [aB,aB,Lt.up] at h;exact h
 obtain ⟨bs,hb⟩:=oy hs2 (id:=8) rfl;have hs3:HSim w2 (rnm [(0,8),(1,9)] φ2) (Lt Λ ψ kS) (ao (sL t (esO []))):=by
  refine hs2.rens [(0,8),(1,9)] τ3 (fun i=>Nat.beq i 9 || Nat.beq i 9 || Nat.beq i 9) rfl rfl (fun p hp=>?_) (BC rfl rfl rfl);simp only [sL,List.mem_cons,List.not_mem_nil,or_false] at hp;rcases hp with rfl|rfl
  · exact ⟨8,_,rfl,rfl,rfl,rfl,rfl⟩
  · exact ⟨9,_,rfl,rfl,rfl,(fun p hp=>by cases hp),rfl⟩
 have m3:=m2.ps.ren kS (by rw [Lt.up];exact hs3) (fun y hy=>by rw [aB];exact iO hy) (ax (iG ln));have mm:=m2.trans m3;have nC:¬ kC=kS:=fun e=>Ak e.symm
 refine next bs w2 v ⟨_,_,mm.ps,⟨⟨by rw [aB];exact hb.rn rfl,[],MNd.nil,aB,fun c=>⟨fun _=>⟨rfl,?_⟩,fun q e=>by cases e⟩⟩,?_,fun c=>?_⟩,((mm.same kC nC).2).trans he,(mm.sim nC hs he hl).put (some d) hd (zb hb (by rw [aB] at hr;exact hr))⟩
 · rw [(mm.same (kR c) (kSR.symm)).2];exact (hi.2 c).1
 · rw [(mm.same kX (k1 (show ¬ (2:Nat)=1 by decide))).2];exact hi.1.2
 · rw [(mm.same (kQ c) (k1 (show ¬ (4:Nat)=1 by decide))).2];exact (hi.2 c).2
def phX (φ:aD):aD:=fun id=>match id with
 | 0=>φ 8
 | 1=>some ⟨none,0⟩
 | _=>none
theorem Bw (h:St Λ w0 (I1 t bs) S w a) (hl:∀ i,(S.t i).lev 0=true) (hg:∀ ψ H,PS Λ w0 w ψ H→Rep w (ψ kX) (Lt Λ ψ kX) (.agg (ja t)) vg) (ht:cx t) (hc:dZ t=true) (hd:Nat.blt d NTl=true)
 (next:∀ bx w' v,St Λ w0 (I2 t bs bx 0 σ0 σ0) (S.put (some d) (.tup [pp bx,i64 0])) w' (a.put (some d) v)→QQ (.returned v) w'):Calls Tryz.prog 6 #[vg] w QQ:=by
 obtain ⟨ψ,H,p,hi,he,hs⟩:=h;refine p.call kX (args:=[.agg (ja t)]) (r:=.tup [.ptr 8 0 0,i64 0]) (hl:=[(8,.box [.fz 0 t.zs.length (cl zoC t.zs),.fz 0 t.ss.length (cl svC t.ss),.v (.slice none 0 0)])]) (by rw [hi.2.1];exact ww t ht hc) (qZ (hg ψ H p)) rfl fun w2 φ2 v m2 g hr=>?_
 have hs2:HSim w2 φ2 (Lt Λ ψ kX) (ao [(8,.box [.fz 0 t.zs.length (cl zoC t.zs),.fz 0 t.ss.length (cl svC t.ss),.v (.slice none 0 0)])]):=by
  have h:=m2.ps.parts.sim kX;rw [aB,aB,Lt.up] at h;exact h
 obtain ⟨bx,hb⟩:=oy hs2 (id:=8) rfl;have hown:∀ y,bp (phX φ2) y→bp φ2 y:=fun y ⟨id,l,o,e1,e2⟩=>by
  match id,e1 with
  | 0,e1=>exact ⟨8,l,o,e1,e2⟩
  | 1,e1=>cases e1;cases e2
  | id+2,e1=>cases e1
 have hs3:HSim w2 (phX φ2) (Lt Λ ψ kX) (ao (xL t 8 (xsO []) 0)):=by
  refine ⟨fun id ob e=>?_,fun id e=>?_,fun id l b o e1 e2=>?_,fun id id' l l' b o o' e1 e2 e3 e4=>?_,hs2.lent⟩
  · match id,e with
    | 0,e=>
     cases e;obtain ⟨l,h1,b,arr,T,g1,g2,g3,g4,g5⟩:=hs2.heap 8 _ rfl;refine ⟨l,h1,b,arr,T,g1,g2,g3,g4,fun j c hj=>?_⟩;have hm:∀ (x:AV) u,x.ok 0=true→Rep w2 φ2 (Lt Λ ψ kX) x u→Rep w2 (phX φ2) (Lt Λ ψ kX) x u:=fun x u hx hu=>hu.move (lv:=0) (fun l b _ _ hm=>⟨fun k=>hm.1 (hown b k),hm.2⟩) hx
     match j,hj with
     | 0,hj=>cases hj;obtain ⟨u,k1,k2⟩:=g5 0 _ rfl;exact ⟨u,k1,hm _ _ rfl k2⟩
     | 1,hj=>cases hj;obtain ⟨u,k1,k2⟩:=g5 1 _ rfl;exact ⟨u,k1,hm _ _ rfl k2⟩
     | 2,hj=>cases hj;obtain ⟨u,k1,k2⟩:=g5 2 _ rfl;cases k2;exact ⟨_,k1,.sl0 (l:=⟨none,0⟩) rfl rfl⟩
    | 1,e=>cases e;exact ⟨⟨none,0⟩,rfl,rfl,.inl ⟨rfl,rfl⟩⟩
    | id+2,e=>cases e
  · match id,e with
    | 0,e=>cases e
    | 1,e=>cases e
    | id+2,e=>rfl
  · match id,e1 with
    | 0,e1=>exact hs2.lt 8 l b o e1 e2
    | 1,e1=>cases e1;cases e2
    | id+2,e1=>cases e1
  · match id,e1,id',e2 with
    | 0,e1,0,e2=>rfl
    | 0,e1,1,e2=>cases e2;cases e4
    | 1,e1,_,e2=>cases e1;cases e3
    | id+2,e1,_,e2=>cases e1
    | 0,e1,id'+2,e2=>cases e2
 have m3:=m2.ps.ren kX (by rw [Lt.up];exact hs3) (fun y hy=>by rw [aB];exact hown y hy) (ax iF);have mm:=m2.trans m3;have nC:¬ kC=kX:=fun e=>Aj e.symm
 have hS:oD t bs σ0 (up (up ψ kX φ2) kX (phX φ2)) (up (up H kX (ao [(8,.box [.fz 0 t.zs.length (cl zoC t.zs),.fz 0 t.ss.length (cl svC t.ss),.v (.slice none 0 0)])])) kX (ao (xL t 8 (xsO []) 0))):=hi.1.frame fun k hk=>mm.same k (by rcases hk with rfl|⟨c,rfl⟩;exact k1 (show ¬ (1:Nat)=2 by decide);exact k1 (show ¬ (3:Nat)=2 by decide))
 refine next bx w2 v ⟨_,_,mm.ps,⟨hS,⟨by rw [aB];exact hb,[],MNd.nil,⟨Nat.le_refl _,0,aB⟩,fun c=>⟨fun _=>⟨rfl,?_⟩,fun q e=>by cases e⟩⟩⟩,((mm.same kC nC).2).trans he,(mm.sim nC hs he hl).put (some d) hd (zb hb (by rw [aB] at hr;exact hr))⟩;rw [(mm.same (kQ c) (kXQ.symm)).2];exact hi.2.2 c
end
def JS (a b:Nat) (w:World):Bl:=fun y o=>(a≤y∧y<b)∧∃ c:UInt8,w.cell? ⟨y,o,none⟩=some (.int .u8 c.toNat)
theorem Ee {N1 N2:Nat} {w:World} {φ':aD} {Λ':aW} {n:Nat} {l:List Rr} {v:Value} (hl:∀ x∈l,x.da.length≤140737488355328) (h:Rep w (fun _=>none) (GB fun b=>N1≤b∧b<N2) (.fz 0 n (cl rrc l)) v):Rep w (fun _=>none) NoL (.fz 0 n (cl (@J.rrJ ⟨JS N1 N2 w⟩) l)) v:=
 gJ (e:=5) (by decide) (fun _=>rfl) (fun _=>rfl) (fun b _ _=>⟨fun h=>aI h,fun _ _ h=>h.elim⟩) (fun x=>AV.oks_iff.1 rfl) (fun x hx r c' c h1 h2 u hu=>by
  match r,h1,h2 with
  | 0,h1,h2=>cases h1;cases h2;exact cD hu
  | 1,h1,h2=>cases h1;cases h2;exact cD hu
  | 2,h1,h2=>cases h1;cases h2;exact cD hu
  | 3,h1,h2=>cases h1;cases h2;exact cD hu
  | 4,h1,h2=>
   cases h1;cases h2;obtain ⟨ad,cap,rfl,e4⟩:=Bb hu;refine .p ⟨x.da.length,hl x hx,ad,cap,rfl,fun hp=>?_⟩ rfl .any;obtain ⟨b,o,f3,f4,f5⟩:=e4 hp;exact ⟨b,o,f3,fun j hj=>⟨Classical.byContradiction fun n=>f4.2 1 Nat.one_pos ⟨rfl,n⟩,_,f5 j hj⟩⟩
  | r+5,h1,_=>cases h1) h
theorem DP {N1 N2:Nat} {w:World} {n:Nat} {l:List Zo} {v:Value} (hl:∀ z∈l,∀ x∈z.rs,x.da.length≤140737488355328) (h:Rep w (fun _=>none) (GB fun b=>N1≤b∧b<N2) (.fz 0 n (cl zoC l)) v):Rep w (fun _=>none) NoL (.fz 0 n (cl (@J.zoJ ⟨JS N1 N2 w⟩) l)) v:=
 gJ (e:=2) (by decide) (fun _=>rfl) (fun _=>rfl) (fun b _ _=>⟨fun h=>aI h,fun _ _ h=>h.elim⟩) (fun x=>AV.oks_iff.1 rfl) (fun x hx r c' c h1 h2 u hu=>by
  match r,h1,h2 with
  | 0,h1,h2=>cases h1;cases h2;exact cD hu
  | 1,h1,h2=>cases h1;cases h2;exact Ee (φ':=fun _=>none) (Λ':=NoL) (hl x hx) hu
  | r+2,h1,_=>cases h1) h
theorem zh {N1 N2:Nat} {w0:Base} {I:(Ks→aD)→(Ks→aX)→Prop} {t:Tr} {bs bx:Nat} {w:World} {a:Act} {vl s0:Value} {QQ:Exit→Act→World→Prop} (B:Nat→Prop) (hB:∀ b,B b→w0.B b∧¬ (N1≤b∧b<N2)) (h:St (LR N1 N2) w0 I (Y7 vl bs bx t.zs.length (.v s0)) w a) (ht:cx t)
 (hU:∀ b,N1≤b→b<N2→Unfro w0.w b) (hG:∀ (ψ:Ks→aD) (H:Ks→aX),PS (LR N1 N2) w0 w ψ H→Rep w (fun _=>none) (GB fun b=>N1≤b∧b<N2) (.fz 0 t.zs.length (cl zoC t.zs)) s0)
 (next:∀ w' a' (hb:∀ b,B b→b<w'.heap.size),St (LR N1 N2) ⟨w',B,hb⟩ I (Y8 bs bx (.v vl)) w' a'→(∀ b,B b→w'.heap[b]?=w.heap[b]?)→w.heap.size≤w'.heap.size→w'.os=w.os→w'.tape=w.tape→w'.output=w.output→Fro w w'→QQ .normal a' w'):((sC (fC (sC (sC (sC (sC (sC zB)))))))).wp Tryz.prog QQ a w:=by
 obtain ⟨ψ,H,p,hi,he,hs⟩:=h;have hG:=hG ψ H p;have hj:@J.JInv ⟨JS N1 N2 w⟩ w (fun _=>none):=fun b o hx=>⟨fun h=>aI h,p.rn.fro trivial b (fun _=>hU b hx.1.1 hx.1.2),hx.2⟩
 have hs0:Sim NTl w (fun _=>none) NoL (Y7 vl bs bx t.zs.length (.fz 0 t.zs.length (cl (@J.zoJ ⟨JS N1 N2 w⟩) t.zs))) a:=by
  refine ⟨hs.defs,hs.size,fun i=>iT (f:=fun i=>a.tmps.getD i undef) (fun p hp=>?_) i,⟨(fun id ob h=>by cases h),fun _ _=>rfl,(fun id l x o h=>by cases h),(fun id id' l l' x o o' h=>by cases h),fun k x h=>h.elim⟩⟩;simp only [List.mem_cons,List.not_mem_nil,or_false] at hp;rcases hp with rfl|rfl|rfl|rfl|rfl|rfl
  · exact cD (show Rep w _ _ (.v vl) _ from hs.tmps 1)
  · exact cD (show Rep w _ _ (.v _) _ from hs.tmps 6)
  · exact cD (show Rep w _ _ (.v _) _ from hs.tmps 8)
  · have e:a.tmps.getD 62 undef=s0:=pn (show Rep w _ _ (.v s0) _ from hs.tmps 62)
    show Rep w _ _ _ (a.tmps.getD 62 undef);rw [e];exact DP (fun z hz x hx=>by have:=(ht.2.1 z hz).2.1.2 x hx;omega) hG
  · exact cD (show Rep w _ _ (.v _) _ from hs.tmps 63)
  · exact cD (show Rep w _ _ (.v _) _ from hs.tmps 64)
 refine @J.zpJ ⟨JS N1 N2 w⟩ vl bs bx t ht w (fun _=>none) a hs0 hj _ fun ae s' w' φ' a' q hs' g hj'=>?_
 letI:HasJ:=⟨JS N1 N2 w⟩
 obtain ⟨rfl,hW⟩:=q;obtain ⟨φ2,hs2,g2⟩:=hW _ NoL w' φ' a' hs';have keep:∀ b,b<w.heap.size→¬ (N1≤b∧b<N2)→w'.heap[b]?=w.heap[b]?:=fun b hb hn=>g.keep b hb (fun h=>aI h) (fun o hx=>hn hx.1)
 have hlt:∀ b,B b→b<w.heap.size:=fun b hb=>Nat.lt_of_lt_of_le (w0.bnd b (hB b hb).1) p.rn.size
 have p2:=p.jstep (w':=w') (fun b hb hn=>keep b hb fun hR=>hn 1 Nat.one_pos ⟨rfl,hR⟩) g.size ⟨w',B,fun b hb=>Nat.lt_of_lt_of_le (hlt b hb) g.size⟩ rfl (fun b hb=>(hB b hb).1);refine next w' a' _ ⟨ψ,H,p2,hi,he,hs2.defs,hs2.size,fun i=>iT (f:=fun i=>a'.tmps.getD i undef) (fun p hp=>?_) i,by have:=p2.parts.sim kC;rw [he] at this;exact this⟩ (fun b hb=>keep b (hlt b hb) (hB b hb).2) g.size g.os g.tape g.output g.fro;simp only [List.mem_cons,List.not_mem_nil,or_false] at hp;rcases hp with rfl|rfl|rfl
 · exact cD (show Rep w' _ _ (.v vl) _ from hs2.tmps 1)
 · exact cD (show Rep w' _ _ (.v _) _ from hs2.tmps 6)
 · exact cD (show Rep w' _ _ (.v _) _ from hs2.tmps 8)
theorem z9 {K:Type} [DecidableEq K] {ψ:K→aD} {k:K} {φ:aD} {i:Nat}:up ψ k φ k i=φ i:=by rw [aB]
theorem zn2b (u0 u1:Value)(vl:Value)(s0 s1:Value):AOps Tryz.prog Tryz.f3.ntmps (oC (fC (sC (sC zB)))) (fun x s=>x=.normal∧Weak s (mkS [(2,.ptr 100 0 0),(6,.v (.pointer none)),(7,i64 1)] [(100,.box [.v u0,.v u1])])) [2,3,4,5,6] (((Y2 u0 u1 s0 s1 vl).put (some 27) (.agg [.v s0,.v s1])).put (some 28) (.tup [.v (.pointer none),i64 1])):=by
 iterate 6 refine ab ?_
 exact ⟨rfl,Weak.full 0 []⟩
theorem zn3a (u0 u1:Value):Go1 Tryz.prog Tryz.f3.ntmps (oC (fC (sC (sC (sC zB))))) [0] (mkS [(2,.ptr 100 0 0),(6,.v (.pointer none)),(7,i64 1)] [(100,.box [.v u0,.v u1])]) ((mkS [(2,.ptr 100 0 0),(6,.v (.pointer none)),(7,i64 1)] [(100,.box [.v u0,.v u1])]).put (some 32) (.agg [.v u0,.v u1])):=by
 refine Go1.cons rfl rfl (bb (z:=.agg [.v u0,.v u1]) (hy:=rfl)) ?_;refine Go1.nil ?_;exact Weak.refl _
theorem zn3b (u0 u1:Value):AOps Tryz.prog Tryz.f3.ntmps (oC (fC (sC (sC (sC zB))))) (fun x s=>x=.normal∧Weak s (mkS [(6,.v (.pointer none)),(7,i64 1),(8,.v (.pointer none)),(9,i64 1)] [])) [2,3,4,5,6] (((mkS [(2,.ptr 100 0 0),(6,.v (.pointer none)),(7,i64 1)] [(100,.box [.v u0,.v u1])]).put (some 32) (.agg [.v u0,.v u1])).put (some 33) (.tup [.v (.pointer none),i64 1])):=by
 iterate 6 refine ab ?_
 exact ⟨rfl,Weak.full 0 []⟩
theorem zn4  : AWp Tryz.prog Tryz.f3.ntmps (sC (sC (sC (sC zB)))) (Post te Tryz.f3 (Ret (tf true))) (mkS [(6,.v (.pointer none)),(7,i64 1),(8,.v (.pointer none)),(9,i64 1)] []):=by
 iterate 5 refine ab ?_
 refine AOps.cons rfl rfl ((OpOk.dec_f (gV) (fun k=>k rfl))) ?_;iterate 5 refine ab ?_
 refine AOps.gcons rfl rfl rfl rfl rfl ((OpOk.bool_is (c:=false) (zG) (rfl))) ?_;iterate 11 refine ab ?_
 refine AOps.cons rfl rfl ((OpOk.dec_t (dm) (rfl))) ?_;iterate 11 refine ab ?_
 refine ak (0) [_] [_] ?_;rfl
section
variable {u0 u1 vl:Value} {t:Tr} {l:List DoS} {w:World} {a:Act} {QQ:Exit→Act→World→Prop}
theorem E7 {Λ:aW} {w0:Base} {bs bx N:Nat} {σ:Int→Option (List UInt8)} (h:St Λ w0 (I2 t bs bx N σ σ) (YE bs bx) w a) (hN:N≤1000) (fin:∀ w' a',Sim NTl w' (fun _=>none) NoL (mkS [(4,tf true)] []) a'→Rn w0 w'→QQ .ret a' w'):((sC (sC (sC (sC (sC (sC (sC zB)))))))).wp Tryz.prog QQ a w:=by
 obtain ⟨f8,c8,hb8⟩:=(kO t [] 0 rfl (fun _ h=>by cases h)).1;obtain ⟨f9,c9,hb9⟩:=(kL t [] 0 0 (by decide) (fun _ h=>by cases h) (fun _ h=>by cases h)).1;refine wp_seq (wp_region ?_);change wpOps Tryz.prog (oC (fC (sC (sC (sC (sC (sC (sC (sC zB))))))))) _ ([0]++[1,2,3,4,5]) a w;refine h.pre ic2 (FK bs bx) (ax rfl) fun w1 a1 h1=>?_
 refine dy hb8 rfl rfl rfl rfl ?_;refine h1.forgetS (x0:=.tmp 155) (x1:=.const (.int .i64 (-77))) (d:=156) (dq rfl) (by rw [List.map_toArray];rfl) rfl rfl rfl fun w2 v2 h2=>?_
 change wpOps Tryz.prog (oC (fC (sC (sC (sC (sC (sC (sC (sC zB))))))))) _ ([2]++[3,4,5]) _ w2;refine h2.pre ic2 (FJ bs bx _) (ax rfl) fun w3 a3 h3=>?_
 refine dy hb9 rfl rfl rfl rfl ?_;refine h3.forgetX (x0:=.tmp 157) (x1:=.const (.int .i64 (-77))) (d:=158) (dq rfl) hN (by rw [List.map_toArray];rfl) rfl rfl rfl fun w4 v4 h4=>?_
 refine h4.ops ic2 (FI bs bx _) (ax rfl) fun w5 a5 h5=>?_
 obtain ⟨ψ,H,p,_,_,hs⟩:=h5;refine wp_ret (fin w5 a5 ⟨hs.defs,hs.size,fun i=>iT (f:=fun i=>a5.tmps.getD i undef) (fun p hp=>?_) i,⟨(fun id ob h=>by cases h),fun _ _=>rfl,(fun id l x o h=>by cases h),(fun id id' l l' x o o' h=>by cases h),fun k x h=>h.elim⟩⟩ p.rn);obtain rfl:=List.mem_singleton.1 hp;exact cD (show Rep w5 _ _ (.v _) _ from hs.tmps 4)
theorem rX (hs0:Sim NTl w (fun _=>none) NoL (Y0 u0 u1 vl) a) (tF:Rep w (fun _=>none) (GB fun b=>b<w.heap.size) (.agg (trC t)) (.agg #[u0,u1])) (ht:cx t)
 (next:∀ w2 w3 w4 φ2 φ4 a4 a0 c0 a9 c9,Goes w (fun _=>none) w2 φ2→(∀ y,bp φ2 y→w.heap.size≤y∧y<w2.heap.size)→Goes w2 (fun _=>none) w3 (fun _=>none)→Goes w2 φ2 w3 φ2→Rep w3 (fun _=>none) (GB fun b=>w2.heap.size≤b∧b<w3.heap.size) (.agg (trC t)) (.agg #[.slice a0 t.zs.length c0,.slice a9 t.ss.length c9])→
  Goes w3 φ2 w4 φ4→Sim NTl w4 φ4 NoL (Y2 u0 u1 (.slice a0 t.zs.length c0) (.slice a9 t.ss.length c9) vl) a4→((sC (sC zB))).wp Tryz.prog QQ a4 w4):zB.wp Tryz.prog QQ a w:=by
 have lt0:(AV.agg (trC t)).lev 0=true:=rfl;refine wp_seq (zp0 u0 u1 vl NoL w (fun _=>none) a hs0 _ fun ae s' w1 φ1' a1 q hs' g0=>?_);obtain ⟨rfl,hW⟩:=q;obtain ⟨φ1,hs1,g1⟩:=hW _ _ w1 φ1' a1 hs';refine wp_seq (wp_region ?_);change wpOps Tryz.prog (oC (fC (sC zB))) _ ([0]++[1,2,3]) a1 w1;refine zp1a u0 u1 vl NoL w1 φ1 a1 _ _ hs1 fun w2 φ2 a2 hs2 g2=>?_
 have gA:Goes w (fun _=>none) w2 φ2:=(g0.trans g1).trans g2;refine dy (fn:=Tryz.f4) ⟨Tryz.func4,rfl,rfl⟩ rfl rfl rfl rfl ?_;have ev:(#[Operand.tmp 24]:Array Operand).map a2.eval=#[.agg #[u0,u1]]:=by
  rw [List.map_toArray];exact congrArg (fun v=>#[v]) (z8 (show Rep w2 _ _ (.agg [.v u0,.v u1]) _ from hs2.tmps 24))
 rw [ev];have kA:∀ b,b<w.heap.size→w2.heap[b]?=w.heap[b]?:=fun b hb=>gA.keep b hb fun h=>aI h
 refine (oW t ht).2 (fun k y=>k=1∧y<w2.heap.size) w2 (fun _=>none) _ ⟨(fun id ob h=>by cases h),fun _ _=>rfl,(fun id l x o h=>by cases h),(fun id id' l l' x o o' h=>by cases h),fun k x h=>h.2⟩
  (qZ (tV (fun b _ _=>⟨fun h=>aI h,fun k hk h=>by have:=h.1;omega⟩) (uM kA tF lt0 o6))) _ (fun r h' w3 φ' v hR hs3 g3 hr=>?_) (fun x h' w' φ' hR=>absurd hR.1 (by simp))
 obtain ⟨e1,e2⟩:=hR;cases e1;subst e2;have hφ:φ'=fun _=>none:=funext fun id=>hs3.dom id rfl
 subst hφ;have gF:Rep w3 (fun _=>none) (GB fun b=>w2.heap.size≤b∧b<w3.heap.size) (.agg (trC t)) v:=hr.move (lv:=0) (fun j b hj hb hm=>by
  obtain rfl:=Nat.le_zero.1 hj;exact ⟨fun h=>aI h,fun k hk h=>h.2 ⟨Nat.le_of_not_lt fun hlt=>hm.2 1 Nat.one_pos ⟨rfl,hlt⟩,hb⟩⟩) rfl
 obtain ⟨s0,s1,rfl,r0,r1⟩:=Da gF;obtain ⟨a0,c0,rfl⟩:=ij r0 rfl;obtain ⟨a9,c9,rfl⟩:=ij r1 rfl;obtain ⟨hs3',g3'⟩:=pR hs2 g3;have hs4:=hs3'.put (some 25) rfl (Gh (u0:=.slice a0 t.zs.length c0) (u1:=.slice a9 t.ss.length c9));refine zp1b u0 u1 vl (.slice a0 t.zs.length c0) (.slice a9 t.ss.length c9) rfl NoL w3 φ2 _ hs4 _ fun ae s' w4 φ4' a4 q hs' g4=>?_
 obtain ⟨rfl,hW⟩:=q;obtain ⟨φ4,hs5,g5⟩:=hW _ _ w4 φ4' a4 hs';exact next w2 w3 w4 φ2 φ4 a4 a0 c0 a9 c9 gA (fun y ho=>by
  refine ⟨(gA.own y ho).resolve_left fun h=>aI h,?_⟩;obtain ⟨id,l,o,e1,e2⟩:=ho;exact (hs2.hs.lt id l y o e1 e2).1) g3 g3' gF (g4.trans g5) hs5
theorem C9 (hs0:Sim NTl w (fun _=>none) NoL (Y0 u0 u1 vl) a) (tF:Rep w (fun _=>none) (GB fun b=>b<w.heap.size) (.agg (trC t)) (.agg #[u0,u1])) (lF:Rep w (fun _=>none) (GB fun b=>b<w.heap.size) (.fz 0 l.length (cl doR l)) vl) (hc:dZ t=true) (ht:cx t) (hl:∀ d∈l,vF d)
 (fin:∀ w' a',Sim NTl w' (fun _=>none) NoL (mkS [(4,tf true)] []) a'→Goes w (fun _=>none) w' (fun _=>none)→QQ .ret a' w'):zB.wp Tryz.prog QQ a w:=by
 have lt0:(AV.agg (trC t)).lev 0=true:=rfl;have ll0:(AV.fz 0 l.length (cl doR l)).lev 0=true:=rfl;refine rX hs0 tF ht fun w2 w3 w4 φ2 φ4 a4 a0 c0 a9 c9 gA own2 g3 g3' gF g45 hs5=>?_
 have kA:∀ b,b<w.heap.size→w2.heap[b]?=w.heap[b]?:=fun b hb=>gA.keep b hb fun h=>aI h
 have s23:w2.heap.size≤w3.heap.size:=g3.size;have s02:w.heap.size≤w2.heap.size:=gA.size;have own4:∀ y,bp φ4 y→¬ (y<w.heap.size∨(w2.heap.size≤y∧y<w3.heap.size)):=fun y ho hb=>by
  rcases g45.own y ho with h|h
  · have:=own2 y h;omega
  · omega
 obtain ⟨b1,hb1w,hb1B⟩:∃ b1:Base,b1.w=w3∧b1.B=fun b=>b<w.heap.size∨(w2.heap.size≤b∧b<w3.heap.size):=⟨⟨w3,_,fun b hb=>by rcases hb with h|h<;>omega⟩,rfl,rfl⟩
 have rn1:Rn b1 w4:=by
  refine ⟨fun b hb=>?_,by rw [hb1w];exact g45.size,by rw [hb1w];exact g45.os,by rw [hb1w];exact g45.tape,by rw [hb1w];exact g45.output,by rw [hb1w];exact g45.fro⟩;rw [hb1B] at hb;rw [hb1w];exact g45.keep b (by rcases hb with h|h<;>omega) fun ho=>by
   have:=own2 b ho;rcases hb with h|h<;>omega
 have hH:HSim w4 φ4 (LR w2.heap.size w3.heap.size) (ao [(100,.box [.v u0,.v u1]),(201,.box [.v (.slice a0 t.zs.length c0),.v (.slice a9 t.ss.length c9)])]):=by
  have q:=hs5.hs;refine HSim.of (φ:=φ4) (Λ:=NoL) (L0:=[(100,.box [.v u0,.v u1]),(201,.box [.v (.slice a0 t.zs.length c0),.v (.slice a9 t.ss.length c9)])]) q rfl (fun id l b o e1 e2=>⟨(q.lt id l b o e1 e2).1,fun k hk=>own4 b ⟨id,l,o,e1,e2⟩ (.inr hk.2)⟩) (fun k b hk=>by have:=hk.2.2;have:=g45.size;omega) fun p hp=>?_
  simp only [List.mem_cons,List.not_mem_nil,or_false] at hp;have cst:∀ {id:Nat} {x y:Value},(Y2 u0 u1 (.slice a0 t.zs.length c0) (.slice a9 t.ss.length c9) vl).h id=some (.box [.v x,.v y])→∃ l,φ4 id=some l∧ObjRep w4 φ4 (LR w2.heap.size w3.heap.size) (.box [.v x,.v y]) l:=fun {id x y} e=>by
   obtain ⟨l,h1,b,arr,T,k1,k2,k3,k4,k5⟩:=q.heap id _ e;refine ⟨l,h1,b,arr,T,k1,k2,k3,k4,fun j c hj=>?_⟩;obtain ⟨u,m1,m2⟩:=k5 j c hj
   match j,hj with
   | 0,hj=>cases hj;exact ⟨u,m1,cD m2⟩
   | 1,hj=>cases hj;exact ⟨u,m1,cD m2⟩
   | j+2,hj=>cases hj
  rcases hp with rfl|rfl
  · exact cst rfl
  · exact cst rfl
 have p:=PS.single (w0:=b1) kC hH (ax rfl) (fun y ho=>by rw [hb1B];exact own4 y ho) rn1;have h5:St (LR w2.heap.size w3.heap.size) b1 I0 (Y2 u0 u1 (.slice a0 t.zs.length c0) (.slice a9 t.ss.length c9) vl) w4 a4:=by
  refine ⟨_,_,p,⟨⟨aO Ak,aO Aj⟩,fun c=>⟨aO Cc,aO Cd⟩⟩,aB,hs5.defs,hs5.size,fun i=>iT (f:=fun i=>a4.tmps.getD i undef) (fun p hp=>?_) i,by have:=p.parts.sim kC;rw [aB (f:=fun _:Ks=>emp)] at this;exact this⟩;simp only [List.mem_cons,List.not_mem_nil,or_false] at hp;rcases hp with rfl|rfl|rfl
  · exact cD (show Rep w4 _ _ (.v vl) _ from hs5.tmps 1)
  · exact q7 (i:=100) z9 (show Rep w4 φ4 NoL (.ptr 100 0 0) _ from hs5.tmps 2)
  · exact q7 (i:=201) z9 (show Rep w4 φ4 NoL (.ptr 201 0 0) _ from hs5.tmps 5)
 have tG:∀ (k:Ks) {Λ:aW} {ψ:Ks→aD} {H:Ks→aX} {w':World},PS (LR w2.heap.size w3.heap.size) b1 w' ψ H→Rep w' (ψ k) (Lt (LR w2.heap.size w3.heap.size) ψ k) (.agg (ja t)) (.agg #[u0,u1]):=fun k {Λ ψ H w'} p=>by
  have h1:Rep b1.w (fun _=>none) (GB fun b=>b<w.heap.size) (.agg (trC t)) (.agg #[u0,u1]):=by
   rw [hb1w];exact uM (fun b hb=>by rw [← kA b hb];exact g3.keep b (by omega) fun h=>aI h) tF lt0 o6
  have h2:=p.base0 k (fun b hb=>by rw [hb1B];exact .inl hb) (fun j b hj hb hL=>by have:=hL.2.1;omega) h1 lt0;exact tV (fun b _ hm=>⟨hm.1,fun k hk=>hm.2 k (by omega)⟩) h2
 have gG:∀ {ψ:Ks→aD} {H:Ks→aX} {w':World},PS (LR w2.heap.size w3.heap.size) b1 w' ψ H→Rep w' (fun _=>none) (GB fun b=>w2.heap.size≤b∧b<w3.heap.size) (.agg (trC t)) (.agg #[.slice a0 t.zs.length c0,.slice a9 t.ss.length c9]):=fun {ψ H w'} p=>by
  refine p.base (B:=fun b=>w2.heap.size≤b∧b<w3.heap.size) (fun b hb=>by rw [hb1B];exact .inr hb) ?_ lt0 o6;rw [hb1w];exact gF
 refine wp_seq (wp_region ?_);change wpOps Tryz.prog (oC (fC (sC (sC zB)))) _ ([0]++[1,2,3,4,5,6]) a4 w4;refine h5.pre ic0 (FL u0 u1 vl _ _) (ax rfl) fun w6 a6 h6=>?_
 refine dy (fn:=Tryz.f5) ⟨Tryz.func5,rfl,rfl⟩ rfl rfl rfl rfl ?_;have ev:(#[Operand.tmp 27]:Array Operand).map a6.eval=#[.agg #[.slice a0 t.zs.length c0,.slice a9 t.ss.length c9]]:=by
  obtain ⟨ψ,H,p,_,_,hs⟩:=h6;rw [List.map_toArray];exact congrArg (fun v=>#[v]) (z8 (show Rep w6 _ _ (.agg [.v _,.v _]) _ from hs.tmps 27))
 rw [ev];refine Bx (d:=28) h6 (ix (dq rfl) rfl) (fun ψ H p=>?_) ht hc rfl fun bs w7 v7 h7=>?_
 · exact tV (φ:=fun _=>none) (Λ:=GB fun b=>w2.heap.size≤b∧b<w3.heap.size) (fun b _ hm=>by
    have hb:w2.heap.size≤b∧b<w3.heap.size:=Classical.byContradiction fun n=>hm.2 1 Nat.one_pos ⟨rfl,n⟩
    refine ⟨fun ho=>p.new kS b ho (by rw [hb1B];exact .inr hb),fun k hk h=>?_⟩;rcases h with h|h
    · have:=h.1;omega
    · have:=h.1;omega) (gG p)
 refine h7.ops ic1 (zp2b u0 u1 vl _ _ bs) (ax rfl) fun w8 a8 h8=>?_
 refine wp_seq (wp_region ?_);change wpOps Tryz.prog (oC (fC (sC (sC (sC zB))))) _ ([0]++[1,2,3,4,5,6]) a8 w8;refine h8.pre ic1 (zp3a u0 u1 vl _ _ bs) (ax rfl) fun w9 a9' h9=>?_
 refine dy (fn:=Tryz.f6) ⟨Tryz.func6,rfl,rfl⟩ rfl rfl rfl rfl ?_;have ev:(#[Operand.tmp 32]:Array Operand).map a9'.eval=#[.agg #[u0,u1]]:=by
  obtain ⟨ψ,H,p,_,_,hs⟩:=h9;rw [List.map_toArray];exact congrArg (fun v=>#[v]) (z8 (show Rep w9 _ _ (.agg [.v _,.v _]) _ from hs.tmps 32))
 rw [ev];refine Bw (d:=33) h9 (ix (dq rfl) rfl) (fun ψ H p=>tG kX (Λ:=NoL) p) ht hc rfl fun bx w10 v10 h10=>?_
 refine h10.ops ic2 (zp3b u0 u1 vl _ _ bs bx) (ax rfl) fun w11 a11 h11=>?_
 refine wp_seq (wp_seq (h11.run ic2 (zp4 vl _ _ bs bx) (ax rfl) fun w12 a12 h12=>?_));refine h12.run ic2 (zp5 vl _ _ bs bx) (ax rfl) fun w13 a13 h13=>?_
 refine wp_seq (wp_seq (h13.run ic2 (zp6 vl a0 t.zs.length c0 _ bs bx) (ax rfl) fun w14 a14 h14=>?_));refine zh (fun b=>b<w.heap.size) (fun b hb=>⟨by rw [hb1B];exact .inl hb,by omega⟩) h14 ht (fun b h1 h2=>?_) (fun ψ H p=>?_) fun w15 a15 hb15 h15 k15 s15 o15 t15 u15 f15=>?_
 · rw [hb1w]
   exact g3.fro trivial b fun h=>by omega
 · obtain ⟨x0,x1,e,r2,_⟩:=Da (gG p)
   cases e;exact r2
 have hb1s:w3.heap.size≤w14.heap.size∧Rn b1 w14:=by
  obtain ⟨ψ,H,p,_⟩:=h14;have:=p.rn.size;rw [hb1w] at this;exact ⟨this,p.rn⟩
 have k14:∀ b,b<w.heap.size→w15.heap[b]?=w.heap[b]?:=fun b hb=>by
  rw [k15 b hb,hb1s.2.keep b (by rw [hb1B];exact .inl hb),hb1w,g3.keep b (by omega) fun h=>aI h,kA b hb]
 have h16:St (LR w2.heap.size w3.heap.size) ⟨w15,fun b=>b<w.heap.size,hb15⟩ (I2 t bs bx 0 σ0 σ0) (Y8 bs bx (.fz 0 l.length (cl doR l))) w15 a15:=by
  obtain ⟨ψ,H,p,hi,he,hs⟩:=h15;refine ⟨ψ,H,p,hi,he,hs.defs,hs.size,fun i=>iT (f:=fun i=>a15.tmps.getD i undef) (fun q hq=>?_) i,hs.hs⟩;simp only [List.mem_cons,List.not_mem_nil,or_false] at hq;rcases hq with rfl|rfl|rfl
  · have e:a15.tmps.getD 1 undef=vl:=pn (show Rep w15 _ _ (.v vl) _ from hs.tmps 1)
    show Rep w15 _ _ _ (a15.tmps.getD 1 undef);rw [e];exact p.base0 kC (B:=fun b=>b<w.heap.size) (fun b hb=>hb) (fun j b hj hb hL=>by have:=hL.2.1;omega) (uM k14 lF ll0 o6) ll0
  · exact hs.tmps 6
  · exact hs.tmps 8
 refine wp_seq (wp_seq (h16.run ic2 (zp8 bs bx l) (ax rfl) fun w17 a17 h17=>?_));refine E6 h17 ht hl fun N σ w18 a18 hN h18=>?_
 refine E7 h18 hN fun w19 a19 hs19 rn19=>fin w19 a19 hs19 ?_
 have z1:w14.heap.size≤w15.heap.size:=s15;have z2:=rn19.size;refine ⟨fun b hb _=>(rn19.keep b hb).trans (k14 b hb),?_,fun b hb=>(aI hb).elim,?_,?_,?_,Pin.none _ _ fun _ _=>rfl,?_⟩
 · have:=hb1s.1
   dsimp only at z2;omega
 · rw [rn19.os,← gA.os,← g3.os];dsimp only;rw [o15,hb1s.2.os,hb1w]
 · rw [rn19.tape,← gA.tape,← g3.tape];dsimp only;rw [t15,hb1s.2.tape,hb1w]
 · rw [rn19.output,← gA.output,← g3.output];dsimp only;rw [u15,hb1s.2.output,hb1w]
 · have q:=hb1s.2.fro
   rw [hb1w] at q;exact (((gA.fro.trans g3.fro).trans q).trans f15).trans rn19.fro
theorem EI (hs0:Sim NTl w (fun _=>none) NoL (Y0 u0 u1 vl) a) (tF:Rep w (fun _=>none) (GB fun b=>b<w.heap.size) (.agg (trC t)) (.agg #[u0,u1])) (hc:dZ t=false) (ht:cx t)
 (fin:∀ w' φ' a',Sim NTl w' φ' NoL (mkS [(6,.v (.pointer none)),(7,i64 1),(8,.v (.pointer none)),(9,i64 1)] []) a'→Goes w (fun _=>none) w' φ'→((sC (sC (sC (sC zB))))).wp Tryz.prog QQ a' w'):zB.wp Tryz.prog QQ a w:=by
 refine rX hs0 tF ht fun w2 w3 w4 φ2 φ4 a4 a0 c0 a9 c9 gA own2 g3 g3' gF g45 hs5=>?_
 have lt0:(AV.agg (trC t)).lev 0=true:=rfl;have emp0:∀ w:World,HSim w (fun _=>none) NoL emp:=fun w=>⟨(fun id ob h=>by cases h),fun _ _=>rfl,(fun id l x o h=>by cases h),(fun id id' l l' x o o' h=>by cases h),fun k x h=>h.elim⟩
 have any1:∀ (w:World) (Λ:aW) b,b<w.heap.size→may (fun _=>none) Λ 0 b→may (fun _=>none) NoL 1 b:=fun _ _ _ _ _=>⟨fun h=>aI h,fun _ _ h=>h.elim⟩
 refine wp_seq (wp_region ?_);change wpOps Tryz.prog (oC (fC (sC (sC zB)))) _ ([0]++[1,2,3,4,5,6]) a4 w4;refine FL u0 u1 vl _ _ NoL w4 φ4 a4 _ _ hs5 fun w6 φ6 a6 hs6 g6=>?_
 refine dy (fn:=Tryz.f5) ⟨Tryz.func5,rfl,rfl⟩ rfl rfl rfl rfl ?_;have ev:(#[Operand.tmp 27]:Array Operand).map a6.eval=#[.agg #[.slice a0 t.zs.length c0,.slice a9 t.ss.length c9]]:=by
  rw [List.map_toArray];exact congrArg (fun v=>#[v]) (z8 (show Rep w6 _ _ (.agg [.v _,.v _]) _ from hs6.tmps 27))
 rw [ev];have g46:=g45.trans g6;have k6:∀ b,w2.heap.size≤b∧b<w3.heap.size→w6.heap[b]?=w3.heap[b]?:=fun b hb=>g46.keep b hb.2 fun ho=>by have:=own2 b ho;omega
 refine (yQ t ht hc).2 NoL w6 (fun _=>none) _ (emp0 _) (qZ (tV (any1 _ _) (uM k6 gF lt0 o6))) _ (fun r h' w7 φ' v hR hs7 g7 hr=>?_) (fun x h' w' φ' hR=>absurd hR.1 (by simp));obtain ⟨e1,e2⟩:=hR;cases e1;obtain ⟨hs7',g7'⟩:=pR hs6 g7;have hs8:=hs7'.put (some 28) rfl (vM hr rfl);refine zn2b u0 u1 vl _ _ NoL w7 φ6 _ hs8 _ fun ae s' w8 φ8' a8 q hs' g8=>?_
 obtain ⟨rfl,hW⟩:=q;obtain ⟨φ8,hs9,g9⟩:=hW _ _ w8 φ8' a8 hs';refine wp_seq (wp_region ?_);change wpOps Tryz.prog (oC (fC (sC (sC (sC zB))))) _ ([0]++[1,2,3,4,5,6]) a8 w8;refine zn3a u0 u1 NoL w8 φ8 a8 _ _ hs9 fun w10 φ10 a10 hs10 g10=>?_
 refine dy (fn:=Tryz.f6) ⟨Tryz.func6,rfl,rfl⟩ rfl rfl rfl rfl ?_;have ev:(#[Operand.tmp 32]:Array Operand).map a10.eval=#[.agg #[u0,u1]]:=by
  rw [List.map_toArray];exact congrArg (fun v=>#[v]) (z8 (show Rep w10 _ _ (.agg [.v _,.v _]) _ from hs10.tmps 32))
 rw [ev];have gB:=((((((gA.trans g3').trans g46).trans g7').trans g8).trans g9).trans g10);refine (yJ t ht hc).2 NoL w10 (fun _=>none) _ (emp0 _) (qZ (tV (any1 _ _) (uM (fun b hb=>gB.keep b hb fun h=>aI h) tF lt0 o6))) _ (fun r h' w11 φ' v hR hs11 g11 hr=>?_) (fun x h' w' φ' hR=>absurd hR.1 (by simp));obtain ⟨e1,e2⟩:=hR;cases e1;obtain ⟨hs11',g11'⟩:=pR hs10 g11;have hs12:=hs11'.put (some 33) rfl (vM hr rfl);refine zn3b u0 u1 NoL w11 φ10 _ hs12 _ fun ae s' w13 φ13' a13 q hs' g13=>?_
 obtain ⟨rfl,hW⟩:=q;obtain ⟨φ13,hs13,g14⟩:=hW _ _ w13 φ13' a13 hs';exact fin w13 φ13 a13 hs13 (((gB.trans g11').trans g13).trans g14)
theorem base0 {Λ:aW} {φ:aD} {x:AV} {v:Value} (h:Rep w φ Λ x v) (hx:x.ok 0=true):Rep w (fun _=>none) (GB fun b=>b<w.heap.size) x v:=
 h.move (lv:=0) (fun l b _ hb _=>⟨fun h=>aI h,fun k _ h=>h.2 hb⟩) hx
theorem Ca (ht:cx t) (hl:∀ d∈l,vF d):AWp Tryz.prog NTl zB (Post te Tryz.f3 (Ret (tf true))) ⟨fun i=>[.agg (trC t),.fz 0 l.length (cl doR l)].getD i (.v undef),emp⟩:=by
 intro Λ w φ a hs QQ hQ;have hφ:φ=fun _=>none:=funext fun id=>hs.hs.dom id rfl
 subst hφ;have h0:Rep w (fun _=>none) Λ (.agg (trC t)) (a.tmps.getD 0 undef):=hs.tmps 0;have h1:Rep w (fun _=>none) Λ (.fz 0 l.length (cl doR l)) (a.tmps.getD 1 undef):=hs.tmps 1;obtain ⟨u0,u1,e0,_,_⟩:=Da h0;have hs0:Sim NTl w (fun _=>none) NoL (Y0 u0 u1 (a.tmps.getD 1 undef)) a:=by
  refine ⟨hs.defs,hs.size,fun i=>iT (f:=fun i=>a.tmps.getD i undef) (fun p hp=>?_) i,⟨(fun id ob h=>by cases h),fun _ _=>rfl,(fun id l x o h=>by cases h),(fun id id' l l' x o o' h=>by cases h),fun k x h=>h.elim⟩⟩;simp only [List.mem_cons,List.not_mem_nil,or_false] at hp;rcases hp with rfl|rfl
  · show Rep w _ _ _ (a.tmps.getD 0 undef)
    rw [e0];exact Gh
  · exact .v
 have hsim:∀ (w':World) (φ':aD) (s':AS) (a':Act),Goes w (fun _=>none) w' φ'→Sim NTl w' φ' NoL s' a'→s'.h=emp→(∀ i,s'.t i=.any∨∃ x,s'.t i=.v x)→Sim NTl w' φ' Λ s' a':=fun w' φ' s' a' g hs' he ht=>by
  have hφ:∀ id,φ' id=none:=fun id=>hs'.hs.dom id (by rw [he])
  refine ⟨hs'.defs,hs'.size,fun i=>?_,⟨(fun id ob h=>by rw [he] at h;cases h),fun id _=>hφ id,(fun id l x o h=>by rw [hφ] at h;cases h),(fun id id' l l' x o o' h=>by rw [hφ] at h;cases h),fun k x h=>Nat.lt_of_lt_of_le (hs.hs.lent k x h) g.size⟩⟩;have h:=hs'.tmps i;rcases ht i with e|⟨x,e⟩
  · rw [e];exact .any
  · rw [e] at h ⊢;exact cD h
 have hfin:Fin te Tryz.f3 (Ret (tf true)) (mkS [(4,tf true)] []):=by
  refine ak (0) [_] [_] ?_;rfl
 have hone:∀ i,(mkS [(4,tf true)] []).t i=.any∨∃ x,(mkS [(4,tf true)] []).t i=.v x:=fun i=>by
  rcases qy (T:=[(4,tf true)]) (i:=i) with e|e
  · exact .inl e
  · have:=List.mem_singleton.1 e
    exact .inr ⟨_,congrArg Prod.snd this⟩
 rw [e0] at h0;cases hc:dZ t with
 | true=>exact C9 hs0 (base0 h0 rfl) (base0 h1 rfl) hc ht hl fun w' a' hs' g=>hQ .ret _ w' _ a' hfin (hsim w' _ _ a' g hs' rfl hone) g
 | false=>
  refine EI hs0 (base0 h0 rfl) hc ht fun w' φ' a' hs' g=>?_
  refine zn4 Λ w' φ' a' (hsim w' φ' _ a' g hs' rfl fun i=>?_) QQ fun ae s2 w2 φ2 a2 q hs2 g2=>hQ ae s2 w2 φ2 a2 q hs2 (g.trans g2)
  rcases qy (T:=[(6,.v (.pointer none)),(7,i64 1),(8,.v (.pointer none)),(9,i64 1)]) (i:=i) with e|e
  · exact .inl e
  · simp only [List.mem_cons,List.not_mem_nil,or_false,Prod.mk.injEq] at e
    rcases e with e|e|e|e<;>exact .inr ⟨_,e.2⟩
end
theorem c_ciceronelaw22_UpstreamLives (t:Tr) (l:List DoS) (ht:cx t) (hl:∀ d∈l,vF d):AC Tryz.prog 3 [.agg (trC t),.fz 0 l.length (cl doR l)] emp (Ret (tf true)):=
 AC.intro te_ok (fn:=Tryz.f3) ⟨Tryz.func3,rfl,rfl⟩ (aE rfl) (Ca ht hl)
theorem qD {p q:TypeId→List AV→Prop} (h:∀ t cs,p t cs→q t cs):∀ {fs:List (Nat×TypeId)} {cs:List AV},oO p fs cs→oO q fs cs
 | [],_,e=>e
 | (_,t)::r,_,⟨a,b,e1,e2,e3⟩=>⟨a,b,e1,h t a e2,qD h e3⟩
theorem has_of {te:TE}:∀ {d:Nat} {t:TypeId} {cs:List AV},Up.Has te d t cs→Has te d t cs
 | 0,_,_,h=>h
 | d+1,t,cs,h=>by
  unfold Up.Has at h;unfold Has;cases hg:te.get t with
  | none=>rw [hg] at h;exact h
  | some i=>
   rw [hg] at h;dsimp only at h ⊢;cases hk:i.k with
   | str=>rw [hk] at h;obtain ⟨l,h1,h2⟩:=h;exact ⟨l,Nat.le_trans h1 (by decide),h2⟩
   | slice e=>rw [hk] at h;obtain ⟨es,h1,h2,h3⟩:=h;exact ⟨es,fun c hc=>has_of (h1 c hc),fun j hj=>Nat.le_trans (h2 j hj) (by decide),h3⟩
   | arr m e=>rw [hk] at h;obtain ⟨es,h1,h2,h3⟩:=h;exact ⟨es,h1,fun c hc=>has_of (h2 c hc),h3⟩
   | struct fs=>rw [hk] at h;exact qD (fun t cs=>has_of) h
   | _=>rw [hk] at h;exact h
section
variable {d:Nat} {s n b u:TypeId} {is in' ib iu:TI}
theorem has_dos {tl tt t th tq tr r q y:TypeId} {itl itt it ith itq itr ir iq iy:TI} {cs:List AV} (h:Up.Has te (d+6) tl cs) (htl:te.get tl=some itl) (ktl:itl.k=.slice tt) (htt:te.get tt=some itt) (ktt:itt.k=.struct [(0,n),(1,n),(2,y),(3,t),(15,n),(16,b)]) (ht:te.get t=some it) (kt:it.k=.struct [(0,th),(8,tq),(9,tr),(10,tr),(11,tr)])
 (hth:te.get th=some ith) (kth:ith.k=.struct [(0,n),(1,b),(2,n),(3,b),(4,b),(5,b),(6,b),(7,n)]) (htq:te.get tq=some itq) (ktq:itq.k=.slice q) (hq:te.get q=some iq) (kq:iq.k=.struct [(0,s),(1,n),(2,n)]) (bq:iq.bytes=32)
 (htr:te.get tr=some itr) (ktr:itr.k=.slice r) (hr:te.get r=some ir) (kr:ir.k=.struct [(0,s),(1,n),(2,n),(3,n),(4,y)]) (br:ir.bytes=64)
 (hs:te.get s=some is) (ks:is.k=.str) (hn:te.get n=some in') (kn:in'.k=.int .i64) (hb:te.get b=some ib) (kb:ib.k=.bool) (hy:te.get y=some iy) (ky:iy.k=.slice u) (hu:te.get u=some iu) (ku:iu.k=.int .u8) (bu:iu.bytes=1) :
 ∃ l:List DoS,cs=[.fz 0 l.length (cl doR l)]∧∀ x∈l,vF x:=by
 obtain ⟨l,h1,_,h3⟩:=Up.has_sl (f:=doR) (q:=vF) h htl ktl htt fun c hc=>by
  obtain ⟨_,w,rfl,q1,hh⟩:=Up.has_struct hc htt ktt;obtain ⟨a1,rfl,_⟩:=Up.has_int q1 hn kn;obtain ⟨_,w,rfl,q1,hh⟩:=hh;obtain ⟨a2,rfl,_⟩:=Up.has_int q1 hn kn;obtain ⟨_,w,rfl,q1,hh⟩:=hh;obtain ⟨a3,rfl,k3⟩:=Up.has_bytes q1 hy ky hu ku bu;obtain ⟨_,w,rfl,q1,hh⟩:=hh;obtain ⟨a4,rfl,m1,m2⟩:=Ar (has_of q1) ht kt hth kth htq ktq hq kq bq htr ktr hr kr br hs ks hn kn hb kb hy ky hu ku bu;obtain ⟨_,w,rfl,q1,hh⟩:=hh;obtain ⟨a5,rfl,_⟩:=Up.has_int q1 hn kn;obtain ⟨_,w,rfl,q1,hh⟩:=hh;obtain ⟨a6,rfl⟩:=Up.has_bool q1 hb kb;cases hh;exact ⟨⟨a1,a2,a3,a4,a5,a6⟩,by simp [doR,doC],k3,m1,m2⟩
 exact ⟨l,h1,h3⟩
end
end Go.Proofs.YthnfcmgpedppaaaGreat.Fw
