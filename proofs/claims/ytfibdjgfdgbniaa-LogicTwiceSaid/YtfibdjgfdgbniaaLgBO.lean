/- Layer 2 in plain words: the document's check. -/
import Derived.Test.YtfibdjgfdgbniaaLgAO
import Derived.Test.YtfibdjgfdgbniaaQLOx7
set_option linter.unusedVariables false
set_option linter.unusedSimpArgs false
namespace Go.Proofs.Ytfibdjgfdgbniaa.Lg
open Go.RowKit Go.Proofs.YtfibdjgfdgbniaaW.PrintWords Go.Proofs.Ytfibdjgfdgbniaa.Pu Go.Proofs.Ytfibdjgfdgbniaa.QLO Go.Proofs.Ytfibdjgfdgbniaa.Rw

theorem ref_Check_ev (x : S23) : Ev (fun k => boscageref01_Check.f k x.f0 x.f1 x.f2) (chk x) := Ev.after 1 fun k => by
  by_cases a0 : x.f0 = 0
  · by_cases b0 : x.f1 = 0 <;> by_cases s : bs x.f2 = [] <;> simp [boscageref01_Check.f, boscageref01_Check.j0, chk, ok, bs_toList, a0, b0, s]
  by_cases a1 : x.f0 = 1
  · by_cases b0 : x.f1 = 0 <;> by_cases b1 : x.f1 = 1 <;> by_cases s : bs x.f2 = [] <;> simp [boscageref01_Check.f, boscageref01_Check.j0, chk, ok, bs_toList, a0, a1, b0, b1, s]
  by_cases a2 : x.f0 = 2
  · by_cases s : bs x.f2 = [] <;> simp [boscageref01_Check.f, boscageref01_Check.j0, chk, ok, bs_toList, a0, a1, a2, s]
  by_cases a3 : x.f0 = 3
  · by_cases b0 : x.f1 = 0 <;> simp [boscageref01_Check.f, boscageref01_Check.j0, chk, ok, bs_toList, a3, b0]
  by_cases a4 : x.f0 = 4
  · by_cases b0 : x.f1 = 0 <;> simp [boscageref01_Check.f, boscageref01_Check.j0, chk, ok, bs_toList, a4, b0]
  simp [boscageref01_Check.f, boscageref01_Check.j0, chk, ok, bs_toList, a0, a1, a2, a3, a4]
end Go.Proofs.Ytfibdjgfdgbniaa.Lg
