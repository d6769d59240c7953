import Derived.Test.YtdnhmnnccfoliaaGreatDoorLCqpr
import Derived.Test.YtdnhmnnccfoliaaGreatDoorLinqpr
import Derived.Test.YtdnhmnnccfoliaaGreatDoorRowqpr
namespace Go.Proofs.YtdnhmnnccfoliaaGreatDoor
open Go.Lg Go.Proofs Go.RowKit
attribute [local irreducible] Code.wp wpList bodyPost Exit.then Exit.inBlock Hp Again Calls Y AT ResV QT Qn QI wpAny wpAnyQ
set_option maxRecDepth 20000
set_option maxHeartbeats 4000000

theorem rows_sl (i : Nat) {M : List Nat} {w0 : World} {H : List HE} {e m c : Nat} {rs : List (List Int)} {a : Option Addr} (hi : H[i]? = some (.own (rowsT e rs) (.slice a m c))) : ∀ w, Hp M w0 H w → SA a rs.length := fun w cw => by
  obtain ⟨a', c', h1, h2, _⟩ := rd_rows (cw.own_rd hi)
  cases h1
  exact h2
def mkv (n : Nat) (g : Nat → Int) : List Int := (List.range n).map g
@[simp] theorem mkv_length {n : Nat} {g : Nat → Int} : (mkv n g).length = n := by simp [mkv]
theorem mkv_get {n i : Nat} {g : Nat → Int} (h : i < n) : (mkv n g).getD i 0 = g i := by simp [mkv, List.getD, h]
theorem rd_mk {w : World} {e R C : Nat} {f : Nat → Nat → Int} {v : Value} (hr : Rd w (ints e (mk R C f)) v) : ∃ a c, v = .slice a (R * C) c ∧ SA a (R * C) ∧ R * C ≤ c := by
  obtain ⟨a, c, h1, h2, h3, _⟩ := hr.ints
  rw [mk_length] at h1 h2 h3
  exact ⟨a, c, h1, h2, h3⟩

theorem inP_mk {p : Int} {R C : Nat} {f : Nat → Nat → Int} (h : inF p R C f) : InP 0 (p - 1) (mk R C f) := fun x hx => by
  obtain ⟨q, hq, rfl⟩ := List.mem_map.1 hx
  have hq' : q < R * C := List.mem_range.1 hq
  have hC : 0 < C := by
    rcases Nat.eq_zero_or_pos C with h0 | h0
    · subst h0; simp at hq'
    · exact h0
  have := h (q / C) (q % C) (Nat.div_lt_of_lt_mul (by rw [Nat.mul_comm]; exact hq')) (Nat.mod_lt _ hC)
  omega
end Go.Proofs.YtdnhmnnccfoliaaGreatDoor
