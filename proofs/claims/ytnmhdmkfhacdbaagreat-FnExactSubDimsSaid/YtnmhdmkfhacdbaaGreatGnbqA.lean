import Derived.Test.YtnmhdmkfhacdbaaGreatInvqA
import Derived.Test.YtnmhdmkfhacdbaaGreatLCqA
import Derived.Test.YtnmhdmkfhacdbaaGreatLEqA
import Derived.Test.YtnmhdmkfhacdbaaGreatMorqA
import Derived.Test.YtnmhdmkfhacdbaaGreatRdPqA
import Derived.Test.YtnmhdmkfhacdbaaGreatRepqA
import Derived.Test.YtnmhdmkfhacdbaaGreatSpdqA
import Derived.Test.YtnmhdmkfhacdbaaGreatSubqA
namespace Go.Proofs.YtnmhdmkfhacdbaaGreat
open Go.Lg Go.Proofs Go.RowKit
attribute [local irreducible] Code.wp wpList bodyPost Exit.then Exit.inBlock Hp Again Calls Y AT ResV QT Qn QI wpAny wpAnyQ
set_option maxRecDepth 20000
set_option maxHeartbeats 4000000

/-! ### the vertices whose dimension is above zero -/
def GivesIL (xs : List Int) (v : Value) (H : List HE) : Prop := ∃ a c, v = .slice a xs.length c ∧ SA a xs.length ∧ H = [.own (iT xs) (.slice a xs.length c)]
end Go.Proofs.YtnmhdmkfhacdbaaGreat

namespace Go.Proofs.YtnmhdmkfhacdbaaGreat
open Go.Lg Go.Proofs Go.RowKit
attribute [local irreducible] Code.wp wpList bodyPost Exit.then Exit.inBlock Hp Again Calls Y AT ResV QT Qn QI wpAny wpAnyQ
set_option maxRecDepth 20000
set_option maxHeartbeats 4000000

/-! ### the dimensions of spaces; a list of spaces of ours -/
def dmL (o : List Sp) : List Int := o.map (fun s => (s.2.length : Int))
@[simp] theorem dmL_length {o : List Sp} : (dmL o).length = o.length := by simp [dmL]
theorem dmL_next {o : List Sp} {i : Nat} {s : Sp} (h : o[i]? = some s) : dmL (o.take i) ++ [(s.2.length : Int)] = dmL (o.take (i + 1)) := by
  rw [List.take_add_one, h]
  simp [dmL]
theorem subDims_ok {w : World} {o : List Sp} {e : Nat} {v : Value} (hr : Rd w (spsT e o) v) (hb : o.length ≤ 1000) : Does Tryz.prog 27 [v] w (GivesIL (dmL o)) := by
  obtain ⟨a3, c3, rfl, hs3, hc3, hd3, hg3⟩ := rd_sps hr
  refine fn_enter Tryz.func27 rfl Tryz.ntmps27 rfl ?_
  repeat' (first
    | (show AT _ _ _ (wpList _ _ _ (_ :: _)); first
       | (show AT _ _ _ (wpList _ _ _ (⟨_, Op.move _, _, _, _, _⟩ :: _)); refine st_y (y_move rfl) rfl ?_)
       | (show AT _ _ _ (wpList _ _ _ (⟨_, Op.assign _, _, _, _, _⟩ :: _)); refine st_y (y_assign rfl) rfl ?_)
       | (show AT _ _ _ (wpList _ _ _ (⟨_, Op.call _, _, _, _, _⟩ :: _)); refine st_y (y_len tabs rfl rfl) rfl ?_))
    | (show AT _ _ _ (wpList _ _ _ []); refine c_nil (x_then ?_))
    | (show AT _ _ _ (Code.wp _ _ _); first | refine c_seq ?_ | refine c_region ?_ | refine c_block ?_))
  refine c_loopH (α := Nat × Option Addr × Nat) [6, 7] (fun s => [(3, .slice s.2.1 s.1 s.2.2), (8, .int .i64 s.1)]) (fun s => s.1 ≤ o.length) (fun s => [.own (iT (dmL (o.take s.1))) (.slice s.2.1 s.1 s.2.2)]) (fun s => o.length - s.1) (0, none, 0) rfl (by repeat' (first | exact Sub.nil | refine Sub.cons rfl ?_ | refine Sub.consi rfl (by omega) ?_)) ?_ ?_ ?_
  · exact Nat.zero_le _
  · exact fun w' c' => Hp.nilp _ _ c'
  · rintro ⟨i, al, cl⟩ hi
    simp only at hi ⊢
    have hln : (dmL (o.take i)).length = i := by simp; omega
    by_cases hin : i < o.length
    · obtain ⟨s, hs⟩ : ∃ s, o[i]? = some s := ⟨_, List.getElem?_eq_getElem hin⟩
      obtain ⟨a4, c4, g1, g2, g3⟩ := hg3 i s hs
      repeat' (first
        | (show AT _ _ _ (wpList _ _ _ (_ :: _)); first
           | (show AT _ _ _ (wpList _ _ _ (⟨_, Op.move _, _, _, _, _⟩ :: _)); refine st_y (y_move rfl) rfl ?_)
           | (show AT _ _ _ (wpList _ _ _ (⟨_, Op.assign _, _, _, _, _⟩ :: _)); refine st_y (y_assign rfl) rfl ?_)
           | (show AT _ _ _ (wpList _ _ _ (⟨_, Op.fieldAddr _ _ _, _, _, _, _⟩ :: _)); refine st_y (y_field tabs rfl rfl rfl) rfl ?_)
           | (show AT _ _ _ (wpList _ _ _ (⟨_, Op.load _ _, _, _, _, _⟩ :: _)); first | refine st_y (y_load2 tabs rfl rfl (hc_w0 g1) (hc_w0 g2)) rfl ?_ | refine st_y (y_load tabs rfl rfl (hc_blk 0 rfl rfl)) rfl ?_)
           | (show AT _ _ _ (wpList _ _ _ (⟨_, Op.indexAddr _ _ _, _, _, _, _⟩ :: _)); refine st_y (y_ixa tabs rfl rfl rfl hs3 (by omega) (by omega)) rfl ?_)
           | (show AT _ _ _ (wpList _ _ _ (⟨_, Op.binOp _ _ _ _ _, _, _, _, _⟩ :: _)); first | refine st_y (y_add rfl rfl (by omega)) rfl ?_ | refine st_y (y_lss rfl rfl) rfl ?_)
           | (show AT _ _ _ (wpList _ _ _ (⟨_, Op.call _, _, _, _, _⟩ :: _)); first | refine m_pushn 1 tabs (k := (s.2.length : Int)) (m := i) rfl rfl rfl rfl rfl hln (by omega) (fun a6 c6 => ?_) | refine st_y (y_len tabs rfl rfl) rfl ?_)
           | (show AT _ _ _ (wpList _ _ _ (⟨_, Op.store _ _ _, _, _, _, _⟩ :: _)); refine m_storeb 0 tabs rfl rfl rfl rfl rfl rfl rfl ?_)
           | (show AT _ _ _ (wpList _ _ _ (⟨_, Op.alloc _, _, _, _, _⟩ :: _)); refine m_alloc tabs rfl rfl (fun b5 hb5 => ?_))
           | (show AT _ _ _ (wpList _ _ _ (⟨_, Op.buildSlice _ _ _, _, _, _, _⟩ :: _)); refine m_build1 tabs (us := [iV s.2.length]) rfl rfl rfl rfl (by decide) rfl (fun g5 hg5 => ?_)))
        | (show AT _ _ _ (wpList _ _ _ []); first | refine c_nil (x_then ?_) | refine c_nil ?_)
        | (show AT _ _ _ (Code.wp _ _ _); first | refine c_seq ?_ | refine c_region ?_ | refine c_skip (x_then ?_) | refine c_block ?_ | refine c_ift rfl (by first | assumption | omega) ?_)
        | (show AT _ _ _ _; first | refine x_then ?_ | refine x_blk ?_))
      refine x_nx (i + 1, a6, c6) (by repeat' (first | exact Sub.nil | refine Sub.cons rfl ?_ | refine Sub.consi rfl (by omega) ?_)) (by simp only; omega) (fun w' c' => ?_) (by simp only; omega)
      rw [dmL_next hs] at c'
      exact c'.sub (.cons_cons _ (List.nil_sublist _))
    · have : i = o.length := by omega
      subst this
      rw [List.take_length]
      refine AT.fact (own_sl 0 rfl) (fun hsl => ?_)
      obtain ⟨a4, c4, e4, hs4⟩ := hsl
      rw [dmL_length] at e4 hs4
      cases e4
      repeat' (first
        | (show AT _ _ _ (wpList _ _ _ (_ :: _)); first
           | (show AT _ _ _ (wpList _ _ _ (⟨_, Op.move _, _, _, _, _⟩ :: _)); refine st_y (y_move rfl) rfl ?_)
           | (show AT _ _ _ (wpList _ _ _ (⟨_, Op.assign _, _, _, _, _⟩ :: _)); refine st_y (y_assign rfl) rfl ?_)
           | (show AT _ _ _ (wpList _ _ _ (⟨_, Op.binOp _ _ _ _ _, _, _, _, _⟩ :: _)); refine st_y (y_lss rfl rfl) rfl ?_))
        | (show AT _ _ _ (wpList _ _ _ []); refine c_nil (x_then ?_))
        | (show AT _ _ _ (Code.wp _ _ _); first | refine c_seq ?_ | refine c_region ?_ | refine c_ret ?_ | refine c_exit ?_ | refine c_iff rfl (by first | assumption | exact not_not_intro (by assumption) | omega) ?_)
        | (show AT _ _ _ _; first | refine x_then ?_ | refine x_then_exit ?_ | refine x_blk_exit rfl ?_))
      exact x_ret1 Tryz.results27 (res_tmp rfl) (fun w' c' => ⟨_, [.own (iT (dmL o)) (.slice al o.length cl)], rfl, ⟨al, cl, by rw [dmL_length], by rw [dmL_length]; exact hs4, by rw [dmL_length]⟩, c'.sub (.cons_cons _ (List.nil_sublist _))⟩)
end Go.Proofs.YtnmhdmkfhacdbaaGreat
