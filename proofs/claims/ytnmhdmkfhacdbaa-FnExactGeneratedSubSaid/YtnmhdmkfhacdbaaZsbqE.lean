import Derived.Test.YtnmhdmkfhacdbaaMorqE
import Derived.Test.YtnmhdmkfhacdbaaRepqE
import Derived.Test.YtnmhdmkfhacdbaaSpdqE
namespace Go.Proofs.Ytnmhdmkfhacdbaa
open Go.Lg Go.Proofs Go.RowKit
theorem y_bld1 {P : Program} {n : Nat} {K : World → Prop} {s : List (Nat × Value)} {ty t : Nat} {x0 : Operand} {v0 v : Value} (hb : ∀ w, (Instr.build t #[(0, v0)]).run P w = .ok v w) (h0 : ev s x0 = some v0) : Y P n K s (.build t #[(0, x0)]) ty v := fun a w f c d pos af g => by
  simp [execOp, f.ev h0, hb]
attribute [local irreducible] Code.wp wpList bodyPost Exit.then Exit.inBlock Hp Again Calls Y AT ResV QT Qn QI wpAny wpAnyQ
set_option maxRecDepth 20000
set_option maxHeartbeats 4000000

/-! ### parts without vectors -/
theorem bld_sp1 (r : Int) (w : World) : (Instr.build 61 #[(0, iV r)]).run Try.prog w = .ok (.agg #[iV r, .slice none 0 0]) w := by kernel_rfl
def zsN (d : List Int) : Nat → List Sp
  | 0 => []
  | n + 1 => zsN d n ++ [(d.getD n 0, [])]
theorem zsN_len (d : List Int) : ∀ n, (zsN d n).length = n
  | 0 => rfl
  | n + 1 => by rw [zsN, List.length_append, zsN_len d n]; rfl
theorem zsN_next (d : List Int) (n : Nat) : (zsN d n).flatMap spT ++ (List.map T.c [iV (d.getD n 0)] ++ [rowsT 22 []]) = (zsN d (n + 1)).flatMap spT := by
  rw [zsN, List.flatMap_append]; rfl
abbrev GivesSps (l : List Sp) (v : Value) (H : List HE) : Prop := ∃ a c, v = .slice a l.length c ∧ SA a l.length ∧ H = [.own (spsT 61 l) (.slice a l.length c)]
abbrev GivesSpsB (l : List Sp) (b : Bool) (v : Value) (H : List HE) : Prop := ∃ a c, v = .tuple #[.slice a l.length c, .bool b] ∧ SA a l.length ∧ H = [.own (spsT 61 l) (.slice a l.length c)]
theorem sps_sl (i : Nat) {M : List Nat} {w0 : World} {H : List HE} {e m c : Nat} {rs : List Sp} {a : Option Addr} (hi : H[i]? = some (.own (spsT e rs) (.slice a m c))) : ∀ w, Hp M w0 H w → SA a rs.length := fun w cw => by
  obtain ⟨a', c', h1, h2, _⟩ := rd_sps (cw.own_rd hi)
  cases h1
  exact h2
theorem zeroSub_ok {w : World} {p q0 : Int} {d : List Int} {u0 u1 u2 u3 : Value} (h2 : Rd w (iT d) u2) (hd : d.length ≤ 64) :
    Does Try.prog 162 [.agg #[iV p, iV q0, u0, u1, u2, u3]] w (GivesSps (zsN d d.length)) := by
  obtain ⟨a2, c2, rfl, hs2, hc2, hd2, hg2⟩ := h2.ints
  refine fn_enter Try.func162 rfl Try.ntmps162 rfl ?_
  repeat' (first
    | (show AT _ _ _ (wpList _ _ _ (_ :: _)); first
       | (show AT _ _ _ (wpList _ _ _ (⟨_, Op.move _, _, _, _, _⟩ :: _)); refine st_y (y_move rfl) rfl ?_)
       | (show AT _ _ _ (wpList _ _ _ (⟨_, Op.assign _, _, _, _, _⟩ :: _)); refine st_y (y_assign rfl) rfl ?_)
       | (show AT _ _ _ (wpList _ _ _ (⟨_, Op.fieldAddr _ _ _, _, _, _, _⟩ :: _)); refine st_y (y_field tabs rfl rfl rfl) rfl ?_)
       | (show AT _ _ _ (wpList _ _ _ (⟨_, Op.load _ _, _, _, _, _⟩ :: _)); refine st_y (y_load tabs rfl rfl (hc_blk 0 rfl rfl)) rfl ?_)
       | (show AT _ _ _ (wpList _ _ _ (⟨_, Op.call _, _, _, _, _⟩ :: _)); refine st_y (y_len tabs rfl rfl) rfl ?_)
       | (show AT _ _ _ (wpList _ _ _ (⟨_, Op.box _ _, _, _, _, _⟩ :: _)); refine m_box rfl rfl (fun b hb => ?_)))
    | (show AT _ _ _ (wpList _ _ _ []); refine c_nil (x_then ?_))
    | (show AT _ _ _ (Code.wp _ _ _); first | refine c_seq ?_ | refine c_region ?_ | refine c_block ?_))
  refine c_loopH (α := Nat × Option Addr × Nat) [7, 8] (fun s => [(3, .slice s.2.1 s.1 s.2.2), (9, .int .i64 s.1)]) (fun s => s.1 ≤ d.length) (fun s => [.own (spsT 61 (zsN d s.1)) (.slice s.2.1 s.1 s.2.2), .blk b #[iV p, iV q0, u0, u1, .slice a2 d.length c2, u3] 32]) (fun s => d.length - s.1) (0, none, 0) rfl (by repeat' (first | exact Sub.nil | refine Sub.cons rfl ?_ | refine Sub.consi rfl (by omega) ?_)) ?_ ?_ ?_
  · exact Nat.zero_le _
  · exact fun w' c' => Hp.nilp _ _ c'
  · rintro ⟨i, al, cl⟩ hi
    simp only at hi ⊢
    by_cases hin : i < d.length
    · refine AT.cls (C' := Hp _ _ (_ :: _)) (fun w' c' => Hp.nilp 22 1 c') ?_
      repeat' (first
        | (show AT _ _ _ (wpList _ _ _ (_ :: _)); first
           | (show AT _ _ _ (wpList _ _ _ (⟨_, Op.move _, _, _, _, _⟩ :: _)); refine st_y (y_move rfl) rfl ?_)
           | (show AT _ _ _ (wpList _ _ _ (⟨_, Op.assign _, _, _, _, _⟩ :: _)); refine st_y (y_assign rfl) rfl ?_)
           | (show AT _ _ _ (wpList _ _ _ (⟨_, Op.load _ _, _, _, _, _⟩ :: _)); refine st_y (y_load tabs rfl rfl (hc_w0 (hg2 i hin))) rfl ?_)
           | (show AT _ _ _ (wpList _ _ _ (⟨_, Op.indexAddr _ _ _, _, _, _, _⟩ :: _)); refine st_y (y_ix1 tabs (j := i) rfl rfl rfl hs2 rfl hin) rfl ?_)
           | (show AT _ _ _ (wpList _ _ _ (⟨_, Op.binOp _ _ _ _ _, _, _, _, _⟩ :: _)); first | refine st_y (y_add rfl rfl (by omega)) rfl ?_ | refine st_y (y_lss rfl rfl) rfl ?_)
           | (show AT _ _ _ (wpList _ _ _ (⟨_, Op.call _, _, _, _, _⟩ :: _)); refine m_push1 [iV (d.getD i 0)] 0 0 tabs (m' := i) rfl rfl rfl rfl rfl rfl rfl (by rw [flatMap_length spT_length, zsN_len]) (by rw [flatMap_length spT_length, zsN_len]; omega) (by decide) rfl rfl (fun a3 c3 => ?_))
           | (show AT _ _ _ (wpList _ _ _ (⟨_, Op.buildSlice _ _ _, _, _, _, _⟩ :: _)); refine m_build1 tabs (us := [iV (d.getD i 0), .slice none 0 0]) rfl rfl rfl rfl (by decide) rfl (fun g2 hg2 => ?_))
           | (show AT _ _ _ (wpList _ _ _ (⟨_, Op.build _ _, _, _, _, _⟩ :: _)); refine st_y (y_bld1 (bld_sp1 _) rfl) rfl ?_))
        | (show AT _ _ _ (wpList _ _ _ []); first | refine c_nil (x_then ?_) | refine c_nil ?_)
        | (show AT _ _ _ (Code.wp _ _ _); first | refine c_seq ?_ | refine c_region ?_ | refine c_skip (x_then ?_) | refine c_block ?_ | refine c_ift rfl (by first | assumption | omega) ?_)
        | (show AT _ _ _ _; first | refine x_then ?_ | refine x_blk ?_))
      refine x_nx (i + 1, a3, c3) (by repeat' (first | exact Sub.nil | refine Sub.cons rfl ?_ | refine Sub.consi rfl (by omega) ?_)) (by simp only; omega) (fun w' c' => ?_) (by simp only; omega)
      have e0 := zsN_next d i
      simp only [rowsT, List.flatMap_nil] at e0
      rw [e0] at c'
      exact c'
    · have : i = d.length := by omega
      subst this
      refine AT.fact (sps_sl 0 rfl) (fun hsl => ?_)
      rw [zsN_len] at hsl
      repeat' (first
        | (show AT _ _ _ (wpList _ _ _ (_ :: _)); first
           | (show AT _ _ _ (wpList _ _ _ (⟨_, Op.move _, _, _, _, _⟩ :: _)); refine st_y (y_move rfl) rfl ?_)
           | (show AT _ _ _ (wpList _ _ _ (⟨_, Op.assign _, _, _, _, _⟩ :: _)); refine st_y (y_assign rfl) rfl ?_)
           | (show AT _ _ _ (wpList _ _ _ (⟨_, Op.binOp _ _ _ _ _, _, _, _, _⟩ :: _)); refine st_y (y_lss rfl rfl) rfl ?_))
        | (show AT _ _ _ (wpList _ _ _ []); refine c_nil (x_then ?_))
        | (show AT _ _ _ (Code.wp _ _ _); first | refine c_seq ?_ | refine c_region ?_ | refine c_ret ?_ | refine c_exit ?_ | refine c_iff rfl (by first | assumption | exact not_not_intro (by assumption) | omega) ?_)
        | (show AT _ _ _ _; first | refine x_then ?_ | refine x_then_exit ?_ | refine x_blk_exit rfl ?_))
      exact x_ret1 Try.results162 (res_tmp rfl) (fun w' c' => ⟨_, _, rfl, ⟨al, cl, by rw [zsN_len], by rw [zsN_len]; exact hsl, by rw [zsN_len]⟩, c'.sub (.cons_cons _ (List.nil_sublist _))⟩)
theorem l12Zero_ok {w : World} {p q0 : Int} {d : List Int} {u0 u1 u2 u3 : Value} (h2 : Rd w (iT d) u2) (hd : d.length ≤ 64) :
    Does Try.prog 116 [.agg #[iV p, iV q0, u0, u1, u2, u3]] w (GivesSps (zsN d d.length)) := by
  obtain ⟨a2, c2, rfl, hs2, hc2, hd2, hg2⟩ := h2.ints
  refine fn_enter Try.func116 rfl Try.ntmps116 rfl ?_
  repeat' (first
    | (show AT _ _ _ (wpList _ _ _ (_ :: _)); first
       | (show AT _ _ _ (wpList _ _ _ (⟨_, Op.assign _, _, _, _, _⟩ :: _)); refine st_y (y_assign rfl) rfl ?_)
       | (show AT _ _ _ (wpList _ _ _ (⟨_, Op.box _ _, _, _, _, _⟩ :: _)); refine m_box rfl rfl (fun b hb => ?_))
       | (show AT _ _ _ (wpList _ _ _ (⟨_, Op.buildSlice _ _ _, _, _, _, _⟩ :: _)); refine m_build0 tabs rfl rfl (fun g hg => ?_)))
    | (show AT _ _ _ (wpList _ _ _ []); refine c_nil (x_then ?_))
    | (show AT _ _ _ (Code.wp _ _ _); first | refine c_seq ?_ | refine c_region ?_ | refine c_block ?_))
  refine c_loopH (α := Nat × Option Addr × Nat) [1] (fun s => [(3, .slice s.2.1 s.1 s.2.2), (4, .int .i64 s.1)]) (fun s => s.1 ≤ d.length) (fun s => [.own (spsT 61 (zsN d s.1)) (.slice s.2.1 s.1 s.2.2), .blk b #[iV p, iV q0, u0, u1, .slice a2 d.length c2, u3] 32]) (fun s => d.length - s.1) (0, some ⟨g, 0, none⟩, 0) rfl (by repeat' (first | exact Sub.nil | refine Sub.cons rfl ?_ | refine Sub.consi rfl (by omega) ?_)) ?_ ?_ ?_
  · exact Nat.zero_le _
  · exact fun w' c' => c'
  · rintro ⟨i, al, cl⟩ hi
    simp only at hi ⊢
    by_cases hin : i < d.length
    · repeat' (first
        | (show AT _ _ _ (wpList _ _ _ (_ :: _)); first
           | (show AT _ _ _ (wpList _ _ _ (⟨_, Op.move _, _, _, _, _⟩ :: _)); refine st_y (y_move rfl) rfl ?_)
           | (show AT _ _ _ (wpList _ _ _ (⟨_, Op.assign _, _, _, _, _⟩ :: _)); refine st_y (y_assign rfl) rfl ?_)
           | (show AT _ _ _ (wpList _ _ _ (⟨_, Op.fieldAddr _ _ _, _, _, _, _⟩ :: _)); refine st_y (y_field tabs rfl rfl rfl) rfl ?_)
           | (show AT _ _ _ (wpList _ _ _ (⟨_, Op.load _ _, _, _, _, _⟩ :: _)); first | refine st_y (y_load tabs rfl rfl (hc_blk 1 rfl rfl)) rfl ?_ | refine st_y (y_load tabs rfl rfl (hc_w0 (hg2 i hin))) rfl ?_)
           | (show AT _ _ _ (wpList _ _ _ (⟨_, Op.indexAddr _ _ _, _, _, _, _⟩ :: _)); refine st_y (y_ix1 tabs (j := i) rfl rfl rfl hs2 rfl hin) rfl ?_)
           | (show AT _ _ _ (wpList _ _ _ (⟨_, Op.binOp _ _ _ _ _, _, _, _, _⟩ :: _)); first | refine st_y (y_add rfl rfl (by omega)) rfl ?_ | refine st_y (y_lss rfl rfl) rfl ?_)
           | (show AT _ _ _ (wpList _ _ _ (⟨_, Op.call _, _, _, _, _⟩ :: _)); first | refine m_push1 [iV (d.getD i 0)] 0 0 tabs (m' := i) rfl rfl rfl rfl rfl rfl rfl (by rw [flatMap_length spT_length, zsN_len]) (by rw [flatMap_length spT_length, zsN_len]; omega) (by decide) rfl rfl (fun a3 c3 => ?_) | refine st_y (y_len tabs rfl rfl) rfl ?_)
           | (show AT _ _ _ (wpList _ _ _ (⟨_, Op.buildSlice _ _ _, _, _, _, _⟩ :: _)); first | refine m_build0 tabs rfl rfl (fun gz hgz => ?_) | refine m_build1 tabs (us := [iV (d.getD i 0), .slice (some ⟨gz, 0, none⟩) 0 0]) rfl rfl rfl rfl (by decide) rfl (fun g2 hg2 => ?_))
           | (show AT _ _ _ (wpList _ _ _ (⟨_, Op.build _ _, _, _, _, _⟩ :: _)); refine st_y (y_bld2 (bld_sp _ _ _ _) rfl rfl) rfl ?_))
        | (show AT _ _ _ (wpList _ _ _ []); first | refine c_nil (x_then ?_) | refine c_nil ?_)
        | (show AT _ _ _ (Code.wp _ _ _); first | refine c_seq ?_ | refine c_region ?_ | refine c_skip (x_then ?_) | refine c_block ?_ | refine c_ift rfl (by first | assumption | omega) ?_)
        | (show AT _ _ _ _; first | refine x_then ?_ | refine x_blk ?_))
      refine x_nx (i + 1, a3, c3) (by repeat' (first | exact Sub.nil | refine Sub.cons rfl ?_ | refine Sub.consi rfl (by omega) ?_)) (by simp only; omega) (fun w' c' => ?_) (by simp only; omega)
      have e0 := zsN_next d i
      simp only [rowsT, List.flatMap_nil] at e0
      rw [e0] at c'
      exact c'
    · have : i = d.length := by omega
      subst this
      refine AT.fact (sps_sl 0 rfl) (fun hsl => ?_)
      rw [zsN_len] at hsl
      repeat' (first
        | (show AT _ _ _ (wpList _ _ _ (_ :: _)); first
           | (show AT _ _ _ (wpList _ _ _ (⟨_, Op.move _, _, _, _, _⟩ :: _)); refine st_y (y_move rfl) rfl ?_)
           | (show AT _ _ _ (wpList _ _ _ (⟨_, Op.assign _, _, _, _, _⟩ :: _)); refine st_y (y_assign rfl) rfl ?_)
           | (show AT _ _ _ (wpList _ _ _ (⟨_, Op.fieldAddr _ _ _, _, _, _, _⟩ :: _)); refine st_y (y_field tabs rfl rfl rfl) rfl ?_)
           | (show AT _ _ _ (wpList _ _ _ (⟨_, Op.load _ _, _, _, _, _⟩ :: _)); refine st_y (y_load tabs rfl rfl (hc_blk 1 rfl rfl)) rfl ?_)
           | (show AT _ _ _ (wpList _ _ _ (⟨_, Op.binOp _ _ _ _ _, _, _, _, _⟩ :: _)); refine st_y (y_lss rfl rfl) rfl ?_)
           | (show AT _ _ _ (wpList _ _ _ (⟨_, Op.call _, _, _, _, _⟩ :: _)); refine st_y (y_len tabs rfl rfl) rfl ?_))
        | (show AT _ _ _ (wpList _ _ _ []); refine c_nil (x_then ?_))
        | (show AT _ _ _ (Code.wp _ _ _); first | refine c_seq ?_ | refine c_region ?_ | refine c_ret ?_ | refine c_exit ?_ | refine c_iff rfl (by first | assumption | exact not_not_intro (by assumption) | omega) ?_)
        | (show AT _ _ _ _; first | refine x_then ?_ | refine x_then_exit ?_ | refine x_blk_exit rfl ?_))
      exact x_ret1 Try.results116 (res_tmp rfl) (fun w' c' => ⟨_, _, rfl, ⟨al, cl, by rw [zsN_len], by rw [zsN_len]; exact hsl, by rw [zsN_len]⟩, c'.sub (.cons_cons _ (List.nil_sublist _))⟩)
end Go.Proofs.Ytnmhdmkfhacdbaa
