/- Fw25: whether two values of plain data are the same; nil; no condition. -/
import Derived.Test.YtaemmklgofddmaaFwX
import Derived.Laws.StructEq
set_option linter.unusedVariables false
set_option linter.unusedSimpArgs false
namespace Go.Proofs.Ytaemmklgofddmaa.Fw
open Go.RowKit

/-- Two cells of plain data. -/
def eqc : AV → AV → Bool
  | .v (.int _ a), .v (.int _ b) => decide (a = b)
  | .v (.bool a), .v (.bool b) => a == b
  | .v (.string a), .v (.string b) => decide (a.data.toList = b.data.toList)
  | _, _ => false
def eqcs : List AV → List AV → Bool
  | [], [] => true
  | a :: l, b :: m => eqc a b && eqcs l m
  | _, _ => false
def ZC.fits : ZC → AV → Bool
  | .int k, .v (.int k' _) => k == k'
  | .bool, .v (.bool _) => true
  | .str, .v (.string _) => true
  | _, _ => false
def fitsAll : List ZC → List AV → Bool
  | [], [] => true
  | z :: zs, a :: l => z.fits a && fitsAll zs l
  | _, _ => false
theorem fitsAll_length : ∀ {zs : List ZC} {l : List AV}, fitsAll zs l = true → zs.length = l.length
  | [], [], _ => rfl
  | z :: zs, a :: l, h => by
    simp only [fitsAll, Bool.and_eq_true] at h
    simp [fitsAll_length h.2]
  | [], _ :: _, h => by simp [fitsAll] at h
  | _ :: _, [], h => by simp [fitsAll] at h
theorem eqcs_append : ∀ {a b c d : List AV}, a.length = c.length → eqcs (a ++ b) (c ++ d) = (eqcs a c && eqcs b d)
  | [], b, [], d, _ => by simp [eqcs]
  | x :: a, b, y :: c, d, h => by
    simp only [List.cons_append, eqcs]
    rw [eqcs_append (by simpa using h), Bool.and_assoc]
  | [], _, _ :: _, _, h => by simp at h
  | _ :: _, _, [], _, h => by simp at h
theorem eqcs_refl : ∀ {zs : List ZC} {l : List AV}, fitsAll zs l = true → eqcs l l = true
  | [], [], _ => rfl
  | z :: zs, a :: l, h => by
    simp only [fitsAll, Bool.and_eq_true] at h
    simp only [eqcs, eqcs_refl h.2, Bool.and_true]
    cases z <;> cases a <;> first | (simp [ZC.fits] at h; done) | (rename_i v; cases v <;> simp_all [ZC.fits, eqc])
  | [], _ :: _, h => by simp [fitsAll] at h
  | _ :: _, [], h => by simp [fitsAll] at h
end Go.Proofs.Ytaemmklgofddmaa.Fw
