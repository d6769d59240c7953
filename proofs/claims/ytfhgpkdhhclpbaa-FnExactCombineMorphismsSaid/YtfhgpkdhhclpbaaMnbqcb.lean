import Derived.Test.YtfhgpkdhhclpbaaAloqcb
import Derived.Test.YtfhgpkdhhclpbaaClsqcb
import Derived.Test.YtfhgpkdhhclpbaaEqsqcb
import Derived.Test.YtfhgpkdhhclpbaaHdsqcb
import Derived.Test.YtfhgpkdhhclpbaaHmbqcb
import Derived.Test.YtfhgpkdhhclpbaaInvqcb
import Derived.Test.YtfhgpkdhhclpbaaKerqcb
import Derived.Test.YtfhgpkdhhclpbaaLEqcb
import Derived.Test.YtfhgpkdhhclpbaaMorqcb
import Derived.Test.YtfhgpkdhhclpbaaMssqcb
import Derived.Test.YtfhgpkdhhclpbaaMulqcb
import Derived.Test.YtfhgpkdhhclpbaaMxfqcb
import Derived.Test.YtfhgpkdhhclpbaaRdIqcb
import Derived.Test.YtfhgpkdhhclpbaaRepqcb
import Derived.Test.YtfhgpkdhhclpbaaSpbqcb
import Derived.Test.YtfhgpkdhhclpbaaSupqcb
namespace Go.Proofs.Ytfhgpkdhhclpbaa
open Go.Lg Go.Proofs Go.RowKit
attribute [local irreducible] Code.wp wpList bodyPost Exit.then Exit.inBlock Hp Again Calls Y AT ResV QT Qn QI wpAny wpAnyQ
set_option maxRecDepth 20000
set_option maxHeartbeats 4000000

/-! ### combinations of morphisms: the cells by the reference -/
theorem l11Flat_ok {w : World} {ms : List Mat} {e : Nat} {v : Value} (hr : Rd w (matsT e ms) v) (hb : (flatL ms).length ≤ 100000) : Does Try.prog 86 [v] w (GivesIL (flatL ms)) := by
  obtain ⟨a3, c3, rfl, hs3, hc3, hd3, hg3⟩ := rd_mats hr
  unfold maxLen at hd3
  refine fn_enter Try.func86 rfl Try.ntmps86 rfl ?_
  repeat' (first
    | (show AT _ _ _ (wpList _ _ _ (_ :: _)); first
       | (show AT _ _ _ (wpList _ _ _ (⟨_, Op.move _, _, _, _, _⟩ :: _)); refine st_y (y_move rfl) rfl ?_)
       | (show AT _ _ _ (wpList _ _ _ (⟨_, Op.assign _, _, _, _, _⟩ :: _)); refine st_y (y_assign rfl) rfl ?_)
       | (show AT _ _ _ (wpList _ _ _ (⟨_, Op.fieldAddr _ _ _, _, _, _, _⟩ :: _)); refine st_y (y_field tabs rfl rfl rfl) rfl ?_)
       | (show AT _ _ _ (wpList _ _ _ (⟨_, Op.load _ _, _, _, _, _⟩ :: _)); refine st_y (y_load tabs rfl rfl (hc_rd (by assumption) (by omega))) rfl ?_)
       | (show AT _ _ _ (wpList _ _ _ (⟨_, Op.indexAddr _ _ _, _, _, _, _⟩ :: _)); first | refine st_y (y_ix1 tabs rfl rfl rfl (by first | assumption | exact .mk) rfl (by omega)) rfl ?_ | refine st_y (y_ixi tabs rfl rfl rfl (by first | assumption | exact .mk) (by omega) (by omega)) rfl ?_ | refine st_y (y_ixa tabs rfl rfl rfl (by first | assumption | exact .mk) (by omega) (by omega)) rfl ?_)
       | (show AT _ _ _ (wpList _ _ _ (⟨_, Op.binOp _ _ _ _ _, _, _, _, _⟩ :: _)); first | refine st_y (y_add rfl rfl (by omega)) rfl ?_ | refine st_y (y_lss rfl rfl) rfl ?_)
       | (show AT _ _ _ (wpList _ _ _ (⟨_, Op.call _, _, _, _, _⟩ :: _)); refine st_y (y_len tabs rfl rfl) rfl ?_)
       | (show AT _ _ _ (wpList _ _ _ (⟨_, Op.buildSlice _ _ _, _, _, _, _⟩ :: _)); refine m_build0 tabs rfl rfl (fun g hg => ?_)))
    | (show AT _ _ _ (wpList _ _ _ []); first | refine c_nil (x_then ?_) | refine c_nil (x_qn ?_) | refine c_nil ?_)
    | (show AT _ _ _ (Code.wp _ _ _); first | refine c_seq ?_ | refine c_region ?_ | refine c_skip (x_then ?_) | refine c_skip (x_blk ?_) | refine c_skip ?_ | refine c_block ?_ | refine c_ret ?_ | refine c_exit ?_ | refine c_true rfl ?_ | refine c_false rfl ?_ | refine c_ift rfl (by first | assumption | omega) ?_ | refine c_iff rfl (by first | assumption | exact not_not_intro (by assumption) | omega) ?_ | refine c_ifnd rfl (fun h => ?_) (fun h => ?_) | refine c_if rfl (fun h => ?_) (fun h => ?_) | refine c_ifn rfl (fun h => ?_) (fun h => ?_))
    | (show AT _ _ _ _; first | refine x_then ?_ | refine x_qn ?_ | refine x_then_ret ?_ | refine x_blk_ret ?_ | refine x_then_exit ?_ | refine x_blk_exit rfl ?_ | refine x_blk_other rfl ?_ | refine x_blk ?_))
  refine c_loopH (α := Nat × Option Addr × Nat) [0] (fun s => [(3, .slice s.2.1 (flatL (ms.take s.1)).length s.2.2), (4, .int .i64 s.1)]) (fun s => s.1 ≤ ms.length) (fun s => [.own (iT (flatL (ms.take s.1))) (.slice s.2.1 (flatL (ms.take s.1)).length s.2.2)]) (fun s => ms.length - s.1) (0, some ⟨g, 0, none⟩, 0) rfl (by repeat' (first | exact Sub.nil | refine Sub.cons rfl ?_ | refine Sub.consi rfl (by omega) ?_)) ?_ ?_ ?_
  · exact Nat.zero_le _
  · exact fun w' c' => c'
  · rintro ⟨i, al, cl⟩ hi
    simp only at hi ⊢
    have hle := flatL_le (ms := ms) (i := i)
    by_cases hin : i < ms.length
    · obtain ⟨m, hm⟩ : ∃ m, ms[i]? = some m := ⟨_, List.getElem?_eq_getElem hin⟩
      obtain ⟨a4, c4, g1, g2, g3, g4⟩ := hg3 i m hm
      have hn := flatL_next hm
      have hle2 := flatL_le (ms := ms) (i := i + 1)
      rw [← hn, List.length_append] at hle2
      repeat' (first
        | (show AT _ _ _ (wpList _ _ _ (_ :: _)); first
           | (show AT _ _ _ (wpList _ _ _ (⟨_, Op.move _, _, _, _, _⟩ :: _)); refine st_y (y_move rfl) rfl ?_)
           | (show AT _ _ _ (wpList _ _ _ (⟨_, Op.assign _, _, _, _, _⟩ :: _)); refine st_y (y_assign rfl) rfl ?_)
           | (show AT _ _ _ (wpList _ _ _ (⟨_, Op.fieldAddr _ _ _, _, _, _, _⟩ :: _)); refine st_y (y_field tabs rfl rfl rfl) rfl ?_)
           | (show AT _ _ _ (wpList _ _ _ (⟨_, Op.load _ _, _, _, _, _⟩ :: _)); first | refine st_y (y_load tabs rfl rfl (hc_w0 g3)) rfl ?_ | refine st_y (y_load tabs rfl rfl (hc_rd (by assumption) (by omega))) rfl ?_)
           | (show AT _ _ _ (wpList _ _ _ (⟨_, Op.indexAddr _ _ _, _, _, _, _⟩ :: _)); first | refine st_y (y_ixa tabs rfl rfl rfl hs3 (by omega) (by omega)) rfl ?_ | refine st_y (y_ix1 tabs rfl rfl rfl (by first | assumption | exact .mk) rfl (by omega)) rfl ?_ | refine st_y (y_ixi tabs rfl rfl rfl (by first | assumption | exact .mk) (by omega) (by omega)) rfl ?_ | refine st_y (y_ixa tabs rfl rfl rfl (by first | assumption | exact .mk) (by omega) (by omega)) rfl ?_)
           | (show AT _ _ _ (wpList _ _ _ (⟨_, Op.binOp _ _ _ _ _, _, _, _, _⟩ :: _)); first | refine st_y (y_add rfl rfl (by omega)) rfl ?_ | refine st_y (y_lss rfl rfl) rfl ?_)
           | (show AT _ _ _ (wpList _ _ _ (⟨_, Op.call _, _, _, _, _⟩ :: _)); first | refine m_appi 0 tabs (ys := m.2.2) rfl rfl rfl rfl rfl (by omega) (fun w' c' => rd_src (c'.rd g4)) (fun a6 c6 => ?_) | refine st_y (y_len tabs rfl rfl) rfl ?_)
           | (show AT _ _ _ (wpList _ _ _ (⟨_, Op.buildSlice _ _ _, _, _, _, _⟩ :: _)); refine m_build0 tabs rfl rfl (fun g hg => ?_)))
        | (show AT _ _ _ (wpList _ _ _ []); first | refine c_nil (x_then ?_) | refine c_nil (x_qn ?_) | refine c_nil ?_)
        | (show AT _ _ _ (Code.wp _ _ _); first | refine c_seq ?_ | refine c_region ?_ | refine c_skip (x_then ?_) | refine c_skip (x_blk ?_) | refine c_skip ?_ | refine c_block ?_ | refine c_ret ?_ | refine c_exit ?_ | refine c_true rfl ?_ | refine c_false rfl ?_ | refine c_ift rfl (by first | assumption | omega) ?_ | refine c_iff rfl (by first | assumption | exact not_not_intro (by assumption) | omega) ?_ | refine c_ifnd rfl (fun h => ?_) (fun h => ?_) | refine c_if rfl (fun h => ?_) (fun h => ?_) | refine c_ifn rfl (fun h => ?_) (fun h => ?_))
        | (show AT _ _ _ _; first | refine x_then ?_ | refine x_qn ?_ | refine x_then_ret ?_ | refine x_blk_ret ?_ | refine x_then_exit ?_ | refine x_blk_exit rfl ?_ | refine x_blk_other rfl ?_ | refine x_blk ?_))
      refine x_nx (i + 1, a6, c6) (by rw [← hn, List.length_append]; exact (by repeat' (first | exact Sub.nil | refine Sub.cons rfl ?_ | refine Sub.consi rfl (by omega) ?_))) (by simp only; omega) (fun w' c' => ?_) (by simp only; omega)
      simp only [← hn, List.length_append]
      exact c'
    · have : i = ms.length := by omega
      subst this
      rw [List.take_length]
      refine AT.fact (own_sl 0 rfl) (fun hsl => ?_)
      obtain ⟨a4, c4, e4, hs4⟩ := hsl
      cases e4
      repeat' (first
        | (show AT _ _ _ (wpList _ _ _ (_ :: _)); first
           | (show AT _ _ _ (wpList _ _ _ (⟨_, Op.move _, _, _, _, _⟩ :: _)); refine st_y (y_move rfl) rfl ?_)
           | (show AT _ _ _ (wpList _ _ _ (⟨_, Op.assign _, _, _, _, _⟩ :: _)); refine st_y (y_assign rfl) rfl ?_)
           | (show AT _ _ _ (wpList _ _ _ (⟨_, Op.fieldAddr _ _ _, _, _, _, _⟩ :: _)); refine st_y (y_field tabs rfl rfl rfl) rfl ?_)
           | (show AT _ _ _ (wpList _ _ _ (⟨_, Op.load _ _, _, _, _, _⟩ :: _)); refine st_y (y_load tabs rfl rfl (hc_rd (by assumption) (by omega))) rfl ?_)
           | (show AT _ _ _ (wpList _ _ _ (⟨_, Op.indexAddr _ _ _, _, _, _, _⟩ :: _)); first | refine st_y (y_ix1 tabs rfl rfl rfl (by first | assumption | exact .mk) rfl (by omega)) rfl ?_ | refine st_y (y_ixi tabs rfl rfl rfl (by first | assumption | exact .mk) (by omega) (by omega)) rfl ?_ | refine st_y (y_ixa tabs rfl rfl rfl (by first | assumption | exact .mk) (by omega) (by omega)) rfl ?_)
           | (show AT _ _ _ (wpList _ _ _ (⟨_, Op.binOp _ _ _ _ _, _, _, _, _⟩ :: _)); first | refine st_y (y_add rfl rfl (by omega)) rfl ?_ | refine st_y (y_lss rfl rfl) rfl ?_)
           | (show AT _ _ _ (wpList _ _ _ (⟨_, Op.call _, _, _, _, _⟩ :: _)); refine st_y (y_len tabs rfl rfl) rfl ?_)
           | (show AT _ _ _ (wpList _ _ _ (⟨_, Op.buildSlice _ _ _, _, _, _, _⟩ :: _)); refine m_build0 tabs rfl rfl (fun g hg => ?_)))
        | (show AT _ _ _ (wpList _ _ _ []); first | refine c_nil (x_then ?_) | refine c_nil (x_qn ?_) | refine c_nil ?_)
        | (show AT _ _ _ (Code.wp _ _ _); first | refine c_seq ?_ | refine c_region ?_ | refine c_skip (x_then ?_) | refine c_skip (x_blk ?_) | refine c_skip ?_ | refine c_block ?_ | refine c_ret ?_ | refine c_exit ?_ | refine c_true rfl ?_ | refine c_false rfl ?_ | refine c_ift rfl (by first | assumption | omega) ?_ | refine c_iff rfl (by first | assumption | exact not_not_intro (by assumption) | omega) ?_ | refine c_ifnd rfl (fun h => ?_) (fun h => ?_) | refine c_if rfl (fun h => ?_) (fun h => ?_) | refine c_ifn rfl (fun h => ?_) (fun h => ?_))
        | (show AT _ _ _ _; first | refine x_then ?_ | refine x_qn ?_ | refine x_then_ret ?_ | refine x_blk_ret ?_ | refine x_then_exit ?_ | refine x_blk_exit rfl ?_ | refine x_blk_other rfl ?_ | refine x_blk ?_))
      exact x_ret1 Try.results86 (res_tmp rfl) (fun w' c' => ⟨_, _, rfl, ⟨_, _, rfl, hs4, rfl⟩, c'.sub (.cons_cons _ (List.nil_sublist _))⟩)
/-! the digits of a number -/
end Go.Proofs.Ytfhgpkdhhclpbaa

namespace Go.Proofs.Ytfhgpkdhhclpbaa
open Go.Lg Go.Proofs Go.RowKit
attribute [local irreducible] Code.wp wpList bodyPost Exit.then Exit.inBlock Hp Again Calls Y AT ResV QT Qn QI wpAny wpAnyQ
set_option maxRecDepth 20000
set_option maxHeartbeats 4000000

/-! ### morphisms by number, by the reference -/
def mnP (a b : Rp) (c : Int) : Prop := 0 ≤ c ∧ c < coV a b
instance (a b : Rp) (c : Int) : Decidable (mnP a b c) := by unfold mnP; infer_instance
theorem mnP.fit {a b : Rp} {c : Int} (h : mnP a b c) : FitP a b := Decidable.byContradiction (fun hn => by
  have := h.2
  rw [coV, if_neg hn] at this
  have := h.1
  omega)
end Go.Proofs.Ytfhgpkdhhclpbaa
