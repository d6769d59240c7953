import Derived.Test.YtfhgpkdhhclpbaaBdrqA
import Derived.Test.YtfhgpkdhhclpbaaFitqA
import Derived.Test.YtfhgpkdhhclpbaaKerqA
namespace Go.Proofs.Ytfhgpkdhhclpbaa
open Go.Lg Go.Proofs Go.RowKit
attribute [local irreducible] Code.wp wpList bodyPost Exit.then Exit.inBlock Hp Again Calls Y AT ResV QT Qn QI wpAny wpAnyQ
set_option maxRecDepth 20000
set_option maxHeartbeats 4000000

/-! ### the basis of the morphisms -/
def hkL (a b : Rp) : List (List Int) := kerL a.p (offN a.d b.d a.d.length) (redTo a.p (idxN a b a.q.2.1.length).length (eqsF a b) (offN a.d b.d a.d.length)).1 (redTo a.p (idxN a b a.q.2.1.length).length (eqsF a b) (offN a.d b.d a.d.length)).2 (freeN (redTo a.p (idxN a b a.q.2.1.length).length (eqsF a b) (offN a.d b.d a.d.length)).2 (offN a.d b.d a.d.length))
theorem hkL_length {a b : Rp} : (hkL a b).length = homN a b := by rw [hkL, kerL_length, homN]
theorem hkL_len {a b : Rp} : ∀ xs ∈ hkL a b, xs.length = offN a.d b.d a.d.length := fun xs hx => by
  obtain ⟨k, _, rfl⟩ := List.mem_map.1 hx
  exact mkv_length
def homB (a b : Rp) : List (List Mat) := if FitP a b then (hkL a b).map (cutL a.d b.d) else []
theorem mss_next {e' : Nat} {K : List (List Int)} {F : List Int → List Mat} {i : Nat} {ks : List Int} (h : K[i]? = some ks) : ((K.take i).map F).flatMap (msT e') ++ (List.map T.c [] ++ [matsT e' (F ks)]) = ((K.take (i + 1)).map F).flatMap (msT e') := by
  rw [List.take_add_one, h]
  simp
end Go.Proofs.Ytfhgpkdhhclpbaa
