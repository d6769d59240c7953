import Derived.Test.YtdnhmnnccfoliaaDoorLBqqv
import Derived.Test.YtdnhmnnccfoliaaDoorLCqqv
import Derived.Test.YtdnhmnnccfoliaaDoorPrdqqv
namespace Go.Proofs.YtdnhmnnccfoliaaDoor
open Go.Lg Go.Proofs Go.RowKit

def mk (R C : Nat) (f : Nat → Nat → Int) : List Int := (List.range (R * C)).map (fun q => f (q / C) (q % C))
@[simp] theorem mk_length {R C : Nat} {f : Nat → Nat → Int} : (mk R C f).length = R * C := by simp [mk]
end Go.Proofs.YtdnhmnnccfoliaaDoor

namespace Go.Proofs.YtdnhmnnccfoliaaDoor
open Go.Lg Go.Proofs Go.RowKit
attribute [local irreducible] Code.wp wpList bodyPost Exit.then Exit.inBlock Hp Again Calls Y AT ResV QT
set_option maxRecDepth 20000
set_option maxHeartbeats 4000000

theorem Clone_ok {w : World} {v : Value} {xs : List Int} (hr : Rd w (iT xs) v) (hb : xs.length ≤ 1048576) : Does Tryd.prog 47 [v] w (fun r H => Gives (iT xs) xs.length r H) := by
  obtain ⟨a, c, rfl, hs, hc1, hc2, hget⟩ := hr.ints
  refine fn_enter Tryd.func47 rfl Tryd.ntmps47 rfl ?_
  repeat' (first | (show oL; first | refine sMv rfl rfl ?_ | refine sAs rfl rfl ?_ | (show oA (.binOp _ _ _ _ _); refine st_y (y_eqsnil tabs rfl rfl rfl) rfl ?_) | (show oA (.call _); refine m_appi 0 tabs (xs := []) rfl rfl rfl rfl rfl (by simp; omega) (fun w c => rd_src (c.rd hr)) (fun a2 c2 => ?_)) | (show oA (.buildSlice _ _ _); refine m_build0 tabs rfl rfl (fun g hg => ?_))) | refine xNt ?_ | (show oC; first | refine c_seq ?_ | refine c_region ?_ | refine c_skip (x_then ?_) | refine c_ret ?_ | refine c_if rfl (fun h => ?_) (fun h => ?_)) | (show AT _ _ _ _; refine x_then_ret ?_))
  · subst h
    have h0 : xs = [] := by
      rcases hs with h | h
      · exact List.length_eq_zero_iff.1 h
      · cases h
    subst h0
    refine x_ret1 Tryd.results47 (res_tmp rfl) (fun w' c' => ⟨_, _, rfl, ⟨none, 0, rfl, .inl rfl, rfl⟩, Hp.nilp _ _ c'⟩)
  · refine AT.fact (own_sl 0 rfl) (fun hsl => ?_)
    obtain ⟨a3, c3, e3, hs3⟩ := hsl
    simp at e3
    obtain ⟨rfl, rfl⟩ := e3
    refine x_ret1 Tryd.results47 (res_tmp rfl) (fun w' c' => ⟨.slice a2 xs.length c2, [.own (iT xs) (.slice a2 xs.length c2)], by simp, ⟨a2, c2, rfl, by simpa using hs3, rfl⟩, by simpa using c'⟩)

end Go.Proofs.YtdnhmnnccfoliaaDoor
