import Derived.Test.YtcplmeajmpkpkaaGreatMxfqsp
namespace Go.Proofs.YtcplmeajmpkpkaaGreat
open Go.Lg Go.Proofs Go.RowKit
attribute [local irreducible] Code.wp wpList bodyPost Exit.then Exit.inBlock Hp Again Calls Y AT ResV QT Qn QI wpAny wpAnyQ
set_option maxRecDepth 20000
set_option maxHeartbeats 4000000

theorem matP_mk {p : Int} {m : Mat} (h : MatP p m) : ∃ (R C : Nat) (f : Nat → Nat → Int), m = (((R : Nat) : Int), ((C : Nat) : Int), mk R C f) ∧ R ≤ 8 ∧ C ≤ 8 ∧ FieldP p ∧ inF p R C f := by
  obtain ⟨r, c, xs⟩ := m
  obtain ⟨⟨hR0, hR8⟩, ⟨hC0, hC8⟩, hlen, hF, _, hin⟩ := h
  simp only at *
  obtain ⟨R, rfl⟩ := Int.eq_ofNat_of_zero_le hR0
  obtain ⟨C, rfl⟩ := Int.eq_ofNat_of_zero_le hC0
  have hlen' : xs.length = R * C := by rw [← Int.natCast_mul] at hlen; omega
  refine ⟨R, C, fun i j => xs.getD (i * C + j) 0, by rw [← mk_of hlen'], by omega, by omega, hF, fun i j hi hj => ?_⟩
  have := inP_get hin (i := i * C + j) (by rw [hlen']; exact cell_lt hi hj)
  simp only
  omega
theorem l4Has_ok {w : World} {xs : List Int} {x : Int} {v : Value} (hr : Rd w (iT xs) v) :
    Does Tryz.prog 83 [v, iV x] w (fun v H => v = .bool (decide (x ∈ xs)) ∧ H = []) := by
  obtain ⟨a, c, rfl, hs, hc1, hc2, hget⟩ := hr.ints
  unfold maxLen at hc2
  refine fn_enter Tryz.func83 rfl Tryz.ntmps83 rfl ?_
  repeat' (first | (show oL; first | refine sAs rfl rfl ?_) | refine xNt ?_ | (show oC; first | refine c_seq ?_ | refine c_region ?_ | refine c_block ?_))
  refine c_loopH (α := Nat) [0, 1] (fun i => [(5, .int .i64 i)]) (fun i => i ≤ xs.length ∧ x ∉ xs.take i) (fun i => []) (fun i => xs.length - i) 0 rfl sB ?_ ?_ ?_
  · exact ⟨by omega, by simp⟩
  · exact fun w' c' => c'
  · rintro i ⟨hi, hn⟩
    by_cases hin : i < xs.length
    · have hx : xs[i]? = some (xs.getD i 0) := getD_some hin
      repeat' (first | (show oL; first | refine sMv rfl rfl ?_ | refine sAs rfl rfl ?_ | (show oA (.load _ _); refine st_y (y_load tabs rfl rfl (hc_w0 (hget i hin))) rfl ?_) | (show oA (.indexAddr _ _ _); refine st_y (y_ix1 tabs (j := i) rfl rfl rfl hs rfl hin) rfl ?_) | (show oA (.binOp _ _ _ _ _); first | refine sAd rfl rfl om rfl ?_ | refine sLs rfl rfl rfl ?_ | refine st_y (y_eql rfl rfl) rfl ?_) | refine sLn tabs rfl rfl rfl ?_) | refine xNt ?_ | (show oC; first | refine c_seq ?_ | refine c_region ?_ | refine c_skip (x_then ?_) | refine c_skip (x_blk ?_) | refine c_block ?_ | refine c_ret ?_ | refine c_ift rfl aO ?_ | refine c_if rfl (fun h => ?_) (fun h => ?_)) | (show AT _ _ _ _; first | refine x_then ?_ | refine x_then_ret ?_ | refine x_blk_ret ?_))
      · refine x_ret1 Tryz.results83 (res_tmp rfl) (fun w c => ⟨_, _, rfl, ⟨congrArg Value.bool ?_, rfl⟩, c⟩)
        have : x ∈ xs := by rw [← h]; exact List.mem_of_getElem? hx
        simp [this]
      · refine x_nx (i + 1) sB ⟨by omega, ?_⟩ (fun w' c' => c') om
        rw [List.take_add_one, hx]
        simp only [Option.toList_some, List.mem_append, List.mem_singleton, not_or]
        exact ⟨hn, fun e => h e.symm⟩
    · repeat' (first | (show oL; first | refine sMv rfl rfl ?_ | refine sAs rfl rfl ?_ | refine sLs rfl rfl rfl ?_ | refine sLn tabs rfl rfl rfl ?_) | refine xNt ?_ | (show oC; first | refine c_seq ?_ | refine c_region ?_ | refine c_ret ?_ | refine c_exit ?_ | refine c_iff rfl nN ?_) | (show AT _ _ _ _; first | refine x_then ?_ | refine x_then_exit ?_ | refine x_blk_exit rfl ?_))
      refine x_ret1 Tryz.results83 (res_tmp rfl) (fun w c => ⟨_, _, rfl, ⟨congrArg Value.bool ?_, rfl⟩, c⟩)
      rw [take_end om] at hn
      simp [hn]
end Go.Proofs.YtcplmeajmpkpkaaGreat

namespace Go.Proofs.YtcplmeajmpkpkaaGreat
open Go.Lg Go.Proofs Go.RowKit
attribute [local irreducible] Code.wp wpList bodyPost Exit.then Exit.inBlock Hp Again Calls Y AT ResV QT Qn QI wpAny wpAnyQ
set_option maxRecDepth 20000
set_option maxHeartbeats 4000000

theorem redTo_piv {p : Int} {R : Nat} {f : Nat → Nat → Int} : ∀ k, ∀ x ∈ (redTo p R f k).2, 0 ≤ x ∧ x < (k : Int)
  | 0, x, h => by simp [redTo] at h
  | k + 1, x, h => by
    simp only [redTo, colStep] at h
    split at h
    · rcases List.mem_append.1 h with h | h
      · have := redTo_piv k x h; omega
      · simp at h; omega
    · have := redTo_piv k x h; omega
abbrev GivesRows (l : List (List Int)) (v : Value) (H : List HE) : Prop := ∃ a c, v = .slice a l.length c ∧ SA a l.length ∧ H = [.own (rowsT 43 l) (.slice a l.length c)]
end Go.Proofs.YtcplmeajmpkpkaaGreat
