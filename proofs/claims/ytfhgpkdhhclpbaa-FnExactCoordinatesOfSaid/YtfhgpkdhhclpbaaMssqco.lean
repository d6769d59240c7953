import Derived.Test.YtfhgpkdhhclpbaaMorqco
import Derived.Test.YtfhgpkdhhclpbaaRowqco
namespace Go.Proofs.Ytfhgpkdhhclpbaa
open Go.Lg Go.Proofs Go.RowKit
attribute [local irreducible] Code.wp wpList bodyPost Exit.then Exit.inBlock Hp Again Calls Y AT ResV QT Qn QI wpAny wpAnyQ
set_option maxRecDepth 20000
set_option maxHeartbeats 4000000

/-! ### lists of lists of matrices -/
abbrev msT (e : Nat) (ms : List Mat) : List T := [matsT e ms]
abbrev mssT (e e' : Nat) (l : List (List Mat)) : T := .s e 1 (l.flatMap (msT e'))
theorem msT_length (e : Nat) (ms : List Mat) : (msT e ms).length = 1 := rfl
theorem rd_mss {w : World} {v : Value} {e e' : Nat} {l : List (List Mat)} (h : Rd w (mssT e e' l) v) : ∃ a cap, v = .slice a l.length cap ∧ SA a l.length ∧ l.length ≤ cap ∧ cap ≤ maxLen ∧
    ∀ i ms, l[i]? = some ms → ∃ a2 c2, w.cell? ⟨ab a, ao a + i, none⟩ = some (.slice a2 ms.length c2) ∧ Rd w (matsT e' ms) (.slice a2 ms.length c2) := by
  obtain ⟨a, cap, h1, h2, h3, h4, h5⟩ := rd_list (msT_length e') (by decide) h
  refine ⟨a, cap, h1, h2, h3, h4, fun i ms hx => ?_⟩
  obtain ⟨u, c, r⟩ := h5 i ms hx 0 _ (by decide) rfl
  obtain ⟨a2, k2, e2, _⟩ := rd_mats r
  subst e2
  exact ⟨a2, k2, by simpa using c, r⟩
def GivesMssB (l : List (List Mat)) (b : Bool) (v : Value) (H : List HE) : Prop := ∃ a c, v = .tuple #[.slice a l.length c, .bool b] ∧ SA a l.length ∧ H = [.own (mssT 30 81 l) (.slice a l.length c)]
theorem mss_sl (i : Nat) {M : List Nat} {w0 : World} {H : List HE} {e e' m c : Nat} {l : List (List Mat)} {a : Option Addr} (hi : H[i]? = some (.own (mssT e e' l) (.slice a m c))) : ∀ w, Hp M w0 H w → SA a l.length := fun w cw => by
  obtain ⟨_, _, e, hs, _⟩ := rd_mss (cw.own_rd hi)
  cases e
  exact hs
end Go.Proofs.Ytfhgpkdhhclpbaa
