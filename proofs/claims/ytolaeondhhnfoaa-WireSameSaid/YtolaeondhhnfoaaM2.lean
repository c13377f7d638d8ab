/- Messages as arguments of laws. -/
import Derived.Test.YtolaeondhhnfoaaM1
import Derived.Test.YtolaeondhhnfoaaFwS
set_option linter.unusedVariables false
set_option linter.unusedSimpArgs false
namespace Go.Proofs.Ytolaeondhhnfoaa.Fw
open Go.RowKit


section
variable {d : Nat} {s n b u : TypeId} {is in' ib iu : TI}
theorem has_rr {t y : TypeId} {it iy : TI} {cs : List AV} (h : Has te (d + 2) t cs) (ht : te.get t = some it) (kt : it.k = .struct [(0, s), (1, n), (2, n), (3, n), (4, y)]) (hs : te.get s = some is) (ks : is.k = .str) (hn : te.get n = some in') (kn : in'.k = .int .i64)
    (hy : te.get y = some iy) (ky : iy.k = .slice u) (hu : te.get u = some iu) (ku : iu.k = .int .u8) (bu : iu.bytes = 1) : ∃ x : Rr, cs = rrc x ∧ x.da.length ≤ 140737488351232 := by
  obtain ⟨_, w, rfl, q, hh⟩ := has_struct h ht kt
  obtain ⟨a1, rfl, _⟩ := has_str q hs ks
  obtain ⟨_, w, rfl, q, hh⟩ := hh
  obtain ⟨a2, rfl, _⟩ := has_int q hn kn
  obtain ⟨_, w, rfl, q, hh⟩ := hh
  obtain ⟨a3, rfl, _⟩ := has_int q hn kn
  obtain ⟨_, w, rfl, q, hh⟩ := hh
  obtain ⟨a4, rfl, _⟩ := has_int q hn kn
  obtain ⟨_, w, rfl, q, hh⟩ := hh
  obtain ⟨a5, rfl, h5⟩ := has_bytes q hy ky hu ku bu
  cases hh
  exact ⟨⟨a1, a2, a3, a4, a5⟩, rfl, h5⟩
theorem has_qu {t : TypeId} {it : TI} {cs : List AV} (h : Has te (d + 1) t cs) (ht : te.get t = some it) (kt : it.k = .struct [(0, s), (1, n), (2, n)]) (hs : te.get s = some is) (ks : is.k = .str) (hn : te.get n = some in') (kn : in'.k = .int .i64) : ∃ x : Qu, cs = quc x ∧ True := by
  obtain ⟨_, w, rfl, q, hh⟩ := has_struct h ht kt
  obtain ⟨a1, rfl, _⟩ := has_str q hs ks
  obtain ⟨_, w, rfl, q, hh⟩ := hh
  obtain ⟨a2, rfl, _⟩ := has_int q hn kn
  obtain ⟨_, w, rfl, q, hh⟩ := hh
  obtain ⟨a3, rfl, _⟩ := has_int q hn kn
  cases hh
  exact ⟨⟨a1, a2, a3⟩, rfl, trivial⟩
theorem has_rrs {t r y : TypeId} {it ir iy : TI} {cs : List AV} (h : Has te (d + 3) t cs) (ht : te.get t = some it) (kt : it.k = .slice r) (hr : te.get r = some ir) (kr : ir.k = .struct [(0, s), (1, n), (2, n), (3, n), (4, y)]) (br : ir.bytes = 64)
    (hs : te.get s = some is) (ks : is.k = .str) (hn : te.get n = some in') (kn : in'.k = .int .i64) (hy : te.get y = some iy) (ky : iy.k = .slice u) (hu : te.get u = some iu) (ku : iu.k = .int .u8) (bu : iu.bytes = 1) : ∃ l : List Rr, cs = [.fz 0 l.length (cl rrc l)] ∧ RrsOk l := by
  obtain ⟨l, h1, h2, h3⟩ := has_sl (f := rrc) (q := fun x => x.da.length ≤ 140737488351232) h ht kt hr fun c hc => has_rr hc hr kr hs ks hn kn hy ky hu ku bu
  exact ⟨l, h1, by rw [br] at h2; exact h2, h3⟩
theorem has_qus {t r : TypeId} {it ir : TI} {cs : List AV} (h : Has te (d + 2) t cs) (ht : te.get t = some it) (kt : it.k = .slice r) (hr : te.get r = some ir) (kr : ir.k = .struct [(0, s), (1, n), (2, n)]) (br : ir.bytes = 32)
    (hs : te.get s = some is) (ks : is.k = .str) (hn : te.get n = some in') (kn : in'.k = .int .i64) : ∃ l : List Qu, cs = [.fz 0 l.length (cl quc l)] ∧ l.length * 32 ≤ 140737488351232 := by
  obtain ⟨l, h1, h2, h3⟩ := has_sl (f := quc) (q := fun _ => True) h ht kt hr fun c hc => has_qu hc hr kr hs ks hn kn
  exact ⟨l, h1, by rw [br] at h2; exact h2⟩
theorem has_hdr {t : TypeId} {it : TI} {cs : List AV} (h : Has te (d + 1) t cs) (ht : te.get t = some it) (kt : it.k = .struct [(0, n), (1, b), (2, n), (3, b), (4, b), (5, b), (6, b), (7, n)]) (hn : te.get n = some in') (kn : in'.k = .int .i64) (hb : te.get b = some ib) (kb : ib.k = .bool) :
    ∃ x : Hdr, cs = [i64 x.id, tf x.resp, i64 x.op, tf x.aa, tf x.tc, tf x.rd, tf x.ra, i64 x.code] ∧ (-9223372036854775808 ≤ x.id ∧ x.id ≤ 9223372036854775807) ∧ (-9223372036854775808 ≤ x.op ∧ x.op ≤ 9223372036854775807) ∧ (-9223372036854775808 ≤ x.code ∧ x.code ≤ 9223372036854775807) := by
  obtain ⟨_, w, rfl, q, hh⟩ := has_struct h ht kt
  obtain ⟨a1, rfl, b1⟩ := has_int q hn kn
  obtain ⟨_, w, rfl, q, hh⟩ := hh
  obtain ⟨a2, rfl⟩ := has_bool q hb kb
  obtain ⟨_, w, rfl, q, hh⟩ := hh
  obtain ⟨a3, rfl, b3⟩ := has_int q hn kn
  obtain ⟨_, w, rfl, q, hh⟩ := hh
  obtain ⟨a4, rfl⟩ := has_bool q hb kb
  obtain ⟨_, w, rfl, q, hh⟩ := hh
  obtain ⟨a5, rfl⟩ := has_bool q hb kb
  obtain ⟨_, w, rfl, q, hh⟩ := hh
  obtain ⟨a6, rfl⟩ := has_bool q hb kb
  obtain ⟨_, w, rfl, q, hh⟩ := hh
  obtain ⟨a7, rfl⟩ := has_bool q hb kb
  obtain ⟨_, w, rfl, q, hh⟩ := hh
  obtain ⟨a8, rfl, b8⟩ := has_int q hn kn
  cases hh
  exact ⟨⟨a1, a2, a3, a4, a5, a6, a7, a8⟩, rfl, b1, b3, b8⟩
theorem has_msg {t th tq tr r q y : TypeId} {it ith itq itr ir iq iy : TI} {cs : List AV} (h : Has te (d + 4) t cs) (ht : te.get t = some it) (kt : it.k = .struct [(0, th), (8, tq), (9, tr), (10, tr), (11, tr)])
    (hth : te.get th = some ith) (kth : ith.k = .struct [(0, n), (1, b), (2, n), (3, b), (4, b), (5, b), (6, b), (7, n)]) (htq : te.get tq = some itq) (ktq : itq.k = .slice q) (hq : te.get q = some iq) (kq : iq.k = .struct [(0, s), (1, n), (2, n)]) (bq : iq.bytes = 32)
    (htr : te.get tr = some itr) (ktr : itr.k = .slice r) (hr : te.get r = some ir) (kr : ir.k = .struct [(0, s), (1, n), (2, n), (3, n), (4, y)]) (br : ir.bytes = 64)
    (hs : te.get s = some is) (ks : is.k = .str) (hn : te.get n = some in') (kn : in'.k = .int .i64) (hb : te.get b = some ib) (kb : ib.k = .bool) (hy : te.get y = some iy) (ky : iy.k = .slice u) (hu : te.get u = some iu) (ku : iu.k = .int .u8) (bu : iu.bytes = 1) :
    ∃ m : Msg, cs = msgC m ∧ MsgOk m := by
  obtain ⟨_, w, rfl, q1, hh⟩ := has_struct h ht kt
  obtain ⟨a1, rfl, _⟩ := has_hdr q1 hth kth hn kn hb kb
  obtain ⟨_, w, rfl, q1, hh⟩ := hh
  obtain ⟨a2, rfl, b2⟩ := has_qus q1 htq ktq hq kq bq hs ks hn kn
  obtain ⟨_, w, rfl, q1, hh⟩ := hh
  obtain ⟨a3, rfl, b3⟩ := has_rrs q1 htr ktr hr kr br hs ks hn kn hy ky hu ku bu
  obtain ⟨_, w, rfl, q1, hh⟩ := hh
  obtain ⟨a4, rfl, b4⟩ := has_rrs q1 htr ktr hr kr br hs ks hn kn hy ky hu ku bu
  obtain ⟨_, w, rfl, q1, hh⟩ := hh
  obtain ⟨a5, rfl, b5⟩ := has_rrs q1 htr ktr hr kr br hs ks hn kn hy ky hu ku bu
  cases hh
  exact ⟨⟨a1, a2, a3, a4, a5⟩, rfl, b2, b3, b4, b5⟩
end

end Go.Proofs.Ytolaeondhhnfoaa.Fw
