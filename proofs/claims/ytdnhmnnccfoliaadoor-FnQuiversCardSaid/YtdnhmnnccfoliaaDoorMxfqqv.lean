import Derived.Test.YtdnhmnnccfoliaaDoorDatqqv
import Derived.Test.YtdnhmnnccfoliaaDoorLBqqv
import Derived.Test.YtdnhmnnccfoliaaDoorLCqqv
import Derived.Test.YtdnhmnnccfoliaaDoorPrmqqv
import Derived.Test.YtdnhmnnccfoliaaDoorRdPqqv
import Derived.Test.YtdnhmnnccfoliaaDoorTabqqv
namespace Go.Proofs.YtdnhmnnccfoliaaDoor
open Go.Lg Go.Proofs Go.RowKit
attribute [local irreducible] Code.wp wpList bodyPost Exit.then Exit.inBlock Hp Again Calls Y AT ResV QT Qn QI wpAny wpAnyQ
set_option maxRecDepth 20000
set_option maxHeartbeats 4000000

def mkv (n : Nat) (g : Nat → Int) : List Int := (List.range n).map g
@[simp] theorem mkv_length {n : Nat} {g : Nat → Int} : (mkv n g).length = n := by simp [mkv]
theorem mkv_get {n i : Nat} {g : Nat → Int} (h : i < n) : (mkv n g).getD i 0 = g i := by simp [mkv, List.getD, h]
theorem mkv_ext {n : Nat} {f g : Nat → Int} (h : ∀ i, i < n → f i = g i) : mkv n f = mkv n g := List.map_congr_left (fun i hi => h i (List.mem_range.1 hi))
theorem mkv_set {n i : Nat} {g : Nat → Int} {v : Int} : (mkv n g).set i v = mkv n (fun q => if q = i then v else g q) := by
  apply List.ext_getElem?
  intro q
  rw [List.getElem?_set]
  by_cases hq : i = q
  · subst hq
    by_cases hi : i < n
    · simp [mkv, hi]
    · simp [mkv, hi]
  · by_cases hn : q < n
    · have hq' : ¬ q = i := fun h => hq h.symm
      simp [mkv, hn, hq, hq']
    · simp [mkv, hn, hq]
theorem mkv_of {n : Nat} {l : List Int} (h : l.length = n) : l = mkv n (fun i => l.getD i 0) := by
  apply List.ext_getElem?
  intro q
  by_cases hq : q < n
  · simp [mkv, hq, h]
  · rw [List.getElem?_eq_none om, List.getElem?_eq_none (by simp; omega)]
end Go.Proofs.YtdnhmnnccfoliaaDoor
