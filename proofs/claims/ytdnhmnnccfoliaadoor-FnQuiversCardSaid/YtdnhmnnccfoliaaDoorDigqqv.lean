import Derived.Test.YtdnhmnnccfoliaaDoorDatqqv
import Derived.Test.YtdnhmnnccfoliaaDoorStrqqv
namespace Go.Proofs.YtdnhmnnccfoliaaDoor
open Go.Lg Go.Proofs Go.RowKit
attribute [local irreducible] Code.wp wpList bodyPost Exit.then Exit.inBlock Hp Again Calls Y AT ResV QT Qn QI wpAny wpAnyQ
set_option maxRecDepth 20000
set_option maxHeartbeats 4000000

def dg (x : Int) : UInt8 := UInt8.ofNat (48 + x.toNat)
theorem dg_conv {x : Int} (h0 : 0 ≤ x) (h9 : x ≤ 9) : IntKind.u8.wrap (48 + x) = ((dg x).toNat : Int) := by
  obtain ⟨k, rfl⟩ : ∃ k : Nat, x = k := ⟨x.toNat, by omega⟩
  have hk : k < 10 := by omega
  match k, hk with
  | 0, _ => rfl
  | 1, _ => rfl
  | 2, _ => rfl
  | 3, _ => rfl
  | 4, _ => rfl
  | 5, _ => rfl
  | 6, _ => rfl
  | 7, _ => rfl
  | 8, _ => rfl
  | 9, _ => rfl
def fiN (n : Int) : Nat → Int
  | 0 => n
  | _ + 1 => 0
def fiS (n : Int) : Nat → List UInt8
  | 0 => []
  | _ + 1 => [dg n]
theorem spec_FormatInt_ok {w : World} {n : Int} (h0 : 0 ≤ n) (h9 : n ≤ 9) : Does Tryd.prog 42 [iV n] w (fun r H => r = sV [dg n] ∧ H = []) := by
  by_cases hn : n = 0
  · subst hn
    refine fn_enter Tryd.func42 rfl Tryd.ntmps42 rfl ?_
    repeat' (first | (show oL; first | refine sMv rfl rfl ?_ | refine sAs rfl rfl ?_ | (show oA (.binOp _ _ _ _ _); first | refine sAd rfl rfl om rfl ?_ | refine sLs rfl rfl rfl ?_ | refine st_y (y_eql rfl rfl) rfl ?_ | refine st_y (y_neq rfl rfl) rfl ?_ | refine st_y (y_neqb_same Tryd.underlying4 rfl rfl) rfl ?_) | (show oA (.unOp _ _ _); first | refine st_y (y_notd rfl) rfl ?_ | refine st_y (y_not rfl) rfl ?_) | (show oA (.buildSlice _ _ _); refine m_build0 tabs rfl rfl (fun g hg => ?_))) | (show oN; first | refine c_nil (x_then ?_) | refine c_nil (x_qn ?_) | refine c_nil ?_) | (show oC; first | refine c_seq ?_ | refine c_region ?_ | refine c_skip (x_then ?_) | refine c_skip (x_blk ?_) | refine c_skip ?_ | refine c_block ?_ | refine c_ret ?_ | refine c_exit ?_ | refine c_true rfl ?_ | refine c_false rfl ?_ | refine c_ift rfl aO ?_ | refine c_iff rfl nN ?_ | refine c_ifnd rfl (fun h => ?_) (fun h => ?_) | refine c_if rfl (fun h => ?_) (fun h => ?_) | refine c_ifn rfl (fun h => ?_) (fun h => ?_)) | (show AT _ _ _ _; first | refine x_then ?_ | refine x_qn ?_ | refine x_then_ret ?_ | refine x_blk_ret ?_ | refine x_then_exit ?_ | refine x_blk_exit rfl ?_ | refine x_blk_other rfl ?_ | refine x_blk ?_))
    exact x_ret1 Tryd.results42 (res_tmp rfl) (fun w' c' => ⟨_, _, rfl, ⟨rfl, rfl⟩, c'.sub (List.nil_sublist _)⟩)
  · have e1 : n.tmod 10 = n := Int.tmod_eq_of_lt h0 om
    have e2 : IntKind.i64.wrap (n.tdiv 10) = 0 := by
      rw [Int.tdiv_eq_zero_of_lt h0 om]; rfl
    refine fn_enter Tryd.func42 rfl Tryd.ntmps42 rfl ?_
    repeat' (first | (show oL; first | refine sMv rfl rfl ?_ | refine sAs rfl rfl ?_ | (show oA (.binOp _ _ _ _ _); first | refine sAd rfl rfl om rfl ?_ | refine sLs rfl rfl rfl ?_ | refine st_y (y_eql rfl rfl) rfl ?_ | refine st_y (y_neq rfl rfl) rfl ?_ | refine st_y (y_neqb_same Tryd.underlying4 rfl rfl) rfl ?_) | (show oA (.unOp _ _ _); first | refine st_y (y_notd rfl) rfl ?_ | refine st_y (y_not rfl) rfl ?_) | (show oA (.buildSlice _ _ _); refine m_build0 tabs rfl rfl (fun g hg => ?_))) | (show oN; first | refine c_nil (x_then ?_) | refine c_nil (x_qn ?_) | refine c_nil ?_) | (show oC; first | refine c_seq ?_ | refine c_region ?_ | refine c_skip (x_then ?_) | refine c_skip (x_blk ?_) | refine c_skip ?_ | refine c_block ?_ | refine c_ret ?_ | refine c_exit ?_ | refine c_true rfl ?_ | refine c_false rfl ?_ | refine c_ift rfl aO ?_ | refine c_iff rfl nN ?_ | refine c_ifnd rfl (fun h => ?_) (fun h => ?_) | refine c_if rfl (fun h => ?_) (fun h => ?_) | refine c_ifn rfl (fun h => ?_) (fun h => ?_)) | (show AT _ _ _ _; first | refine x_then ?_ | refine x_qn ?_ | refine x_then_ret ?_ | refine x_blk_ret ?_ | refine x_then_exit ?_ | refine x_blk_exit rfl ?_ | refine x_blk_other rfl ?_ | refine x_blk ?_))
    refine c_loopH (α := Nat) [4] (fun k => [(0, iV (fiN n k)), (3, sV (fiS n k))]) (fun k => k ≤ 1) (fun k => []) (fun k => 1 - k) 0 rfl sB ?_ ?_ ?_
    · omega
    · exact fun w' c' => c'
    · intro k hk
      match k, hk with
      | 0, _ =>
        simp only [fiN, fiS]
        repeat' (first | (show oL; first | refine sMv rfl rfl ?_ | refine sAs rfl rfl ?_ | (show oA (.binOp _ _ _ _ _); first | refine st_y (y_rem rfl rfl (by decide)) rfl ?_ | refine st_y (y_cat rfl rfl (by simp) (by simp)) rfl ?_ | refine st_y (y_quo rfl rfl (by decide)) rfl ?_ | refine sAd rfl rfl om rfl ?_ | refine sLs rfl rfl rfl ?_ | refine st_y (y_eql rfl rfl) rfl ?_ | refine st_y (y_neq rfl rfl) rfl ?_ | refine st_y (y_neqb_same Tryd.underlying4 rfl rfl) rfl ?_) | (show oA (.unOp _ _ _); first | refine st_y (y_notd rfl) rfl ?_ | refine st_y (y_not rfl) rfl ?_) | (show oA (.buildSlice _ _ _); first | refine m_build1 tabs (us := [bV (dg n)]) rfl rfl rfl rfl (by decide) rfl (fun g hg => ?_) | refine m_build0 tabs rfl rfl (fun g hg => ?_)) | (show oA (.convert _ _ _); first | refine st_y (y_convk (t := 3) (t' := 5) (k := .i64) (k' := .u8) (q := ((dg n).toNat : Int)) kr kr kr rfl (by rw [e1]; exact dg_conv h0 h9)) rfl ?_ | refine st_y (y_convbs (t := 22) (t' := 9) (e := 5) (l := [dg n]) kr kr kr rfl (fun w c => fun j u hj => by rw [Addr.add_lit]; exact hc_blk 0 rfl (by rw [Nat.zero_add, List.getElem?_toArray]; exact hj) w c)) rfl ?_)) | (show oN; first | refine c_nil (x_then ?_) | refine c_nil (x_qn ?_) | refine c_nil ?_) | (show oC; first | refine c_seq ?_ | refine c_region ?_ | refine c_skip (x_then ?_) | refine c_skip (x_blk ?_) | refine c_skip ?_ | refine c_block ?_ | refine c_ret ?_ | refine c_exit ?_ | refine c_true rfl ?_ | refine c_false rfl ?_ | refine c_ift rfl aO ?_ | refine c_iff rfl nN ?_ | refine c_ifnd rfl (fun h => ?_) (fun h => ?_) | refine c_if rfl (fun h => ?_) (fun h => ?_) | refine c_ifn rfl (fun h => ?_) (fun h => ?_)) | (show AT _ _ _ _; first | refine x_then ?_ | refine x_qn ?_ | refine x_then_ret ?_ | refine x_blk_ret ?_ | refine x_then_exit ?_ | refine x_blk_exit rfl ?_ | refine x_blk_other rfl ?_ | refine x_blk ?_))
        rw [e2]
        exact x_nx 1 sB om (fun w' c' => c'.sub (List.nil_sublist _)) om
      | 1, _ =>
        simp only [fiN, fiS]
        repeat' (first | (show oL; first | refine sMv rfl rfl ?_ | refine sAs rfl rfl ?_ | (show oA (.binOp _ _ _ _ _); first | refine sAd rfl rfl om rfl ?_ | refine sLs rfl rfl rfl ?_ | refine st_y (y_eql rfl rfl) rfl ?_ | refine st_y (y_neq rfl rfl) rfl ?_ | refine st_y (y_neqb_same Tryd.underlying4 rfl rfl) rfl ?_) | (show oA (.unOp _ _ _); first | refine st_y (y_notd rfl) rfl ?_ | refine st_y (y_not rfl) rfl ?_) | (show oA (.buildSlice _ _ _); refine m_build0 tabs rfl rfl (fun g hg => ?_))) | (show oN; first | refine c_nil (x_then ?_) | refine c_nil (x_qn ?_) | refine c_nil ?_) | (show oC; first | refine c_seq ?_ | refine c_region ?_ | refine c_skip (x_then ?_) | refine c_skip (x_blk ?_) | refine c_skip ?_ | refine c_block ?_ | refine c_ret ?_ | refine c_exit ?_ | refine c_true rfl ?_ | refine c_false rfl ?_ | refine c_ift rfl aO ?_ | refine c_iff rfl nN ?_ | refine c_ifnd rfl (fun h => ?_) (fun h => ?_) | refine c_if rfl (fun h => ?_) (fun h => ?_) | refine c_ifn rfl (fun h => ?_) (fun h => ?_)) | (show AT _ _ _ _; first | refine x_then ?_ | refine x_qn ?_ | refine x_then_ret ?_ | refine x_blk_ret ?_ | refine x_then_exit ?_ | refine x_blk_exit rfl ?_ | refine x_blk_other rfl ?_ | refine x_blk ?_))
        exact x_ret1 Tryd.results42 (res_tmp rfl) (fun w' c' => ⟨_, _, rfl, ⟨rfl, rfl⟩, c'.sub (List.nil_sublist _)⟩)
end Go.Proofs.YtdnhmnnccfoliaaDoor
