import Derived.Test.YtijjkfbkihgfgaaGreatCopqho
import Derived.Test.YtijjkfbkihgfgaaGreatEqmqho
import Derived.Test.YtijjkfbkihgfgaaGreatLEqho
import Derived.Test.YtijjkfbkihgfgaaGreatMxfqho
import Derived.Test.YtijjkfbkihgfgaaGreatPrdqho
import Derived.Test.YtijjkfbkihgfgaaGreatPrmqho
import Derived.Test.YtijjkfbkihgfgaaGreatSpmqho
namespace Go.Proofs.YtijjkfbkihgfgaaGreat
open Go.Lg Go.Proofs Go.RowKit
attribute [local irreducible] Code.wp wpList bodyPost Exit.then Exit.inBlock Hp Again Calls Y AT ResV QT Qn QI wpAny wpAnyQ
set_option maxRecDepth 20000
set_option maxHeartbeats 4000000

def flN {α : Type} (rs : List (List α)) (i : Nat) : Nat := (rs.take i).flatten.length
theorem flN_next {α : Type} {rs : List (List α)} {i : Nat} {xs : List α} (h : rs[i]? = some xs) : flN rs (i + 1) = flN rs i + xs.length := by
  unfold flN
  rw [List.take_add_one, h]
  simp
theorem flN_le {α : Type} (rs : List (List α)) (i : Nat) : flN rs i ≤ rs.flatten.length := by
  unfold flN
  have : rs.flatten = (rs.take i).flatten ++ (rs.drop i).flatten := by rw [← List.flatten_append, List.take_append_drop]
  rw [this, List.length_append]; omega
theorem take_flat {α : Type} {rs : List (List α)} {i : Nat} {xs : List α} (h : rs[i]? = some xs) : (rs.take (i + 1)).flatten = (rs.take i).flatten ++ xs := by
  rw [List.take_add_one, h]
  simp
def rowsF (rs : List (List Int)) : Nat → Nat → Int := fun i j => (rs.getD i []).getD j 0
theorem flat_mk {C : Nat} : ∀ {rs : List (List Int)}, (∀ xs ∈ rs, xs.length = C) → rs.flatten = mk rs.length C (rowsF rs) := fun {rs} h => by
  have hl : ∀ {l : List (List Int)}, (∀ xs ∈ l, xs.length = C) → l.flatten.length = l.length * C := fun {l} h => by
    induction l with
    | nil => simp
    | cons x l ih =>
      rw [List.flatten_cons, List.length_append, ih (fun y hy => h y (List.mem_cons_of_mem _ hy)), h x (List.mem_cons_self ..), List.length_cons, Nat.succ_mul]; omega
  have key : ∀ {l : List (List Int)}, (∀ xs ∈ l, xs.length = C) → ∀ i j, i < l.length → j < C → l.flatten.getD (i * C + j) 0 = rowsF l i j := fun {l} h => by
    induction l with
    | nil => intro i j hi; simp at hi
    | cons x l ih =>
      intro i j hi hj
      have hx := h x (List.mem_cons_self ..)
      rw [List.flatten_cons]
      cases i with
      | zero =>
        simp only [Nat.zero_mul, Nat.zero_add, rowsF, List.getD_eq_getElem?_getD, List.getElem?_append]
        rw [if_pos om]
        simp
      | succ i =>
        have := ih (fun y hy => h y (List.mem_cons_of_mem _ hy)) i j (by simpa using hi) hj
        simp only [rowsF, List.getD_eq_getElem?_getD, List.getElem?_append] at this ⊢
        rw [Nat.succ_mul, if_neg om, show i * C + C + j - x.length = i * C + j by omega, this]
        simp
  rw [mk_of (hl h)]
  exact mk_ext (fun i j hi hj => key h i j hi hj)
def NamesAt (w : World) (v : Value) (us : List Value) : Prop := ∃ a c, v = .slice a us.length c ∧ us.length ≤ 1048576 ∧ (us.length = 0 ∨ a = some ⟨ab a, ao a, none⟩) ∧ (∀ (j : Nat) u, us[j]? = some u → w.cell? ⟨ab a, ao a + j, none⟩ = some u) ∧ ∀ u ∈ us, u.oneCell' = true
theorem NamesAt.rd {w w' : World} {H : List HE} {v : Value} {us : List Value} (h : NamesAt w v us) (c : Hp [] w H w') : NamesAt w' v us := by
  obtain ⟨a, cc, h1, h2, h3, h4, h5⟩ := h
  exact ⟨a, cc, h1, h2, h3, fun j u hu => c.cell (h4 j u hu), h5⟩
end Go.Proofs.YtijjkfbkihgfgaaGreat

namespace Go.Proofs.YtijjkfbkihgfgaaGreat
open Go.Lg Go.Proofs Go.RowKit
attribute [local irreducible] Code.wp wpList bodyPost Exit.then Exit.inBlock Hp Again Calls Y AT ResV QT Qn QI wpAny wpAnyQ
set_option maxRecDepth 20000
set_option maxHeartbeats 4000000

theorem matP_mk {p : Int} {m : Mat} (h : MatP p m) : ∃ (R C : Nat) (f : Nat → Nat → Int), m = (((R : Nat) : Int), ((C : Nat) : Int), mk R C f) ∧ R ≤ 8 ∧ C ≤ 8 ∧ FieldP p ∧ inF p R C f := by
  obtain ⟨r, c, xs⟩ := m
  obtain ⟨⟨hR0, hR8⟩, ⟨hC0, hC8⟩, hlen, hF, _, hin⟩ := h
  simp only at *
  obtain ⟨R, rfl⟩ := Int.eq_ofNat_of_zero_le hR0
  obtain ⟨C, rfl⟩ := Int.eq_ofNat_of_zero_le hC0
  have hlen' : xs.length = R * C := by rw [← Int.natCast_mul] at hlen; omega
  refine ⟨R, C, fun i j => xs.getD (i * C + j) 0, by rw [← mk_of hlen'], by omega, by omega, hF, fun i j hi hj => ?_⟩
  have := inP_get hin (i := i * C + j) (by rw [hlen']; exact cell_lt hi hj)
  simp only
  omega
def InvP (p : Int) (m : Mat) : Prop := MatP p m ∧ m.1 = m.2.1 ∧ ((redL p m).length : Int) = m.1
instance (p : Int) (m : Mat) : Decidable (InvP p m) := by unfold InvP; infer_instance
abbrev GivesMB (m : Mat) (b : Bool) (v : Value) (H : List HE) : Prop := ∃ a c, v = .tuple #[.agg #[iV m.1, iV m.2.1, .slice a m.2.2.length c], .bool b] ∧ SA a m.2.2.length ∧ H = [.own (iT m.2.2) (.slice a m.2.2.length c)]
theorem spec_IsInvertible_ok {w : World} {p : Int} {m : Mat} {u : Value} (hr : Rd w (iT m.2.2) u) :
    Does Tryz.prog 244 [iV p, .agg #[iV m.1, iV m.2.1, u]] w (fun v H => v = .bool (decide (InvP p m)) ∧ H = []) := by
  have hk : MatP p m → rankF p m = (redL p m).length := fun h => by rw [rankF, if_pos h]
  refine fn_enter Tryz.func244 rfl Tryz.ntmps244 rfl ?_
  repeat' (first | (show oL; first | refine sAs rfl rfl ?_ | (show oA (.box _ _); refine m_box rfl rfl (fun bq hbq => ?_))) | refine xNt ?_ | (show oC; first | refine c_seq ?_ | refine c_region ?_ | refine c_ret ?_ | refine c_draw kr kr (fun _ c => Hp.drew c) ?_) | (show QT _ _ _ _ _ _ (_ :: _); first | refine qMv rfl rfl ?_ | refine qAs rfl rfl ?_ | refine qFd tabs rfl rfl rfl rfl ?_ | (show qA (.load _ _); first | refine qLb 0 tabs rfl rfl rfl rfl rfl ?_ | refine qLd 0 tabs rfl rfl rfl rfl rfl ?_) | (show qA (.binOp _ _ _ _ _); refine q_y (y_eql rfl rfl) rfl ?_) | (show qA (.call _); first | refine q_call (ent_of Tryz.func134 kr rfl) rfl rfl (fun w c => spec_IsMatrix_ok (m := m) (c.rd hr)) (fun u H' h => h.1) ?_ | refine q_call (ent_of Tryz.func163 kr rfl) rfl rfl (fun w c => spec_RankOf_ok (m := m) (c.rd hr)) (fun u H' h => h.1) ?_) | (show qA (.pick _ _ _); first | refine q_y (y_pickt rfl aS rfl) rfl ?_ | refine q_y (y_pickf rfl aS rfl) rfl ?_ | refine q_y (y_pick rfl rfl rfl) rfl ?_) | refine q_gn rfl rfl rfl ?_ | refine q_gdy rfl rfl aS ?_ | refine q_gdn rfl rfl aS rfl ?_ | refine q_gd rfl rfl (fun h => ?_) (fun h => ?_)) | (show QT _ _ _ _ _ _ []; refine q_nil (x_then ?_)))
  all_goals refine x_ret1 Tryz.results244 (res_tmp rfl) (fun w c => ⟨_, _, rfl, ⟨congrArg Value.bool ?_, rfl⟩, c.sub (List.nil_sublist _)⟩)
  all_goals first
    | (have hn : ¬ InvP p m := fun hi => by first | exact absurd hi.1 aS | exact absurd hi.2.1 aS
       simp [hn])
    | (have hM : MatP p m := by first | assumption | exact Decidable.not_not.1 aS
       rw [hk hM]
       have hsq : m.1 = m.2.1 := by omega
       simp [InvP, hM, hsq])
theorem l4Has_ok {w : World} {xs : List Int} {x : Int} {v : Value} (hr : Rd w (iT xs) v) :
    Does Tryz.prog 197 [v, iV x] w (fun v H => v = .bool (decide (x ∈ xs)) ∧ H = []) := by
  obtain ⟨a, c, rfl, hs, hc1, hc2, hget⟩ := hr.ints
  unfold maxLen at hc2
  refine fn_enter Tryz.func197 rfl Tryz.ntmps197 rfl ?_
  repeat' (first | (show oL; first | refine sAs rfl rfl ?_) | refine xNt ?_ | (show oC; first | refine c_seq ?_ | refine c_region ?_ | refine c_block ?_))
  refine c_loopH (α := Nat) [0, 1] (fun i => [(5, .int .i64 i)]) (fun i => i ≤ xs.length ∧ x ∉ xs.take i) (fun i => []) (fun i => xs.length - i) 0 rfl sB ?_ ?_ ?_
  · exact ⟨by omega, by simp⟩
  · exact fun w' c' => c'
  · rintro i ⟨hi, hn⟩
    by_cases hin : i < xs.length
    · have hx : xs[i]? = some (xs.getD i 0) := getD_some hin
      repeat' (first | (show oL; first | refine sMv rfl rfl ?_ | refine sAs rfl rfl ?_ | (show oA (.load _ _); refine st_y (y_load tabs rfl rfl (hc_w0 (hget i hin))) rfl ?_) | (show oA (.indexAddr _ _ _); refine st_y (y_ix1 tabs (j := i) rfl rfl rfl hs rfl hin) rfl ?_) | (show oA (.binOp _ _ _ _ _); first | refine sAd rfl rfl om rfl ?_ | refine sLs rfl rfl rfl ?_ | refine st_y (y_eql rfl rfl) rfl ?_) | refine sLn tabs rfl rfl rfl ?_) | refine xNt ?_ | (show oC; first | refine c_seq ?_ | refine c_region ?_ | refine c_skip (x_then ?_) | refine c_skip (x_blk ?_) | refine c_block ?_ | refine c_ret ?_ | refine c_ift rfl aO ?_ | refine c_if rfl (fun h => ?_) (fun h => ?_)) | (show AT _ _ _ _; first | refine x_then ?_ | refine x_then_ret ?_ | refine x_blk_ret ?_))
      · refine x_ret1 Tryz.results197 (res_tmp rfl) (fun w c => ⟨_, _, rfl, ⟨congrArg Value.bool ?_, rfl⟩, c⟩)
        have : x ∈ xs := by rw [← h]; exact List.mem_of_getElem? hx
        simp [this]
      · refine x_nx (i + 1) sB ⟨by omega, ?_⟩ (fun w' c' => c') om
        rw [List.take_add_one, hx]
        simp only [Option.toList_some, List.mem_append, List.mem_singleton, not_or]
        exact ⟨hn, fun e => h e.symm⟩
    · repeat' (first | (show oL; first | refine sMv rfl rfl ?_ | refine sAs rfl rfl ?_ | refine sLs rfl rfl rfl ?_ | refine sLn tabs rfl rfl rfl ?_) | refine xNt ?_ | (show oC; first | refine c_seq ?_ | refine c_region ?_ | refine c_ret ?_ | refine c_exit ?_ | refine c_iff rfl nN ?_) | (show AT _ _ _ _; first | refine x_then ?_ | refine x_then_exit ?_ | refine x_blk_exit rfl ?_))
      refine x_ret1 Tryz.results197 (res_tmp rfl) (fun w c => ⟨_, _, rfl, ⟨congrArg Value.bool ?_, rfl⟩, c⟩)
      rw [take_end om] at hn
      simp [hn]
end Go.Proofs.YtijjkfbkihgfgaaGreat

namespace Go.Proofs.YtijjkfbkihgfgaaGreat
open Go.Lg Go.Proofs Go.RowKit
attribute [local irreducible] Code.wp wpList bodyPost Exit.then Exit.inBlock Hp Again Calls Y AT ResV QT Qn QI wpAny wpAnyQ
set_option maxRecDepth 20000
set_option maxHeartbeats 4000000

theorem redTo_piv {p : Int} {R : Nat} {f : Nat → Nat → Int} : ∀ k, ∀ x ∈ (redTo p R f k).2, 0 ≤ x ∧ x < (k : Int)
  | 0, x, h => by simp [redTo] at h
  | k + 1, x, h => by
    simp only [redTo, colStep] at h
    split at h
    · rcases List.mem_append.1 h with h | h
      · have := redTo_piv k x h; omega
      · simp at h; omega
    · have := redTo_piv k x h; omega
abbrev GivesRows (l : List (List Int)) (v : Value) (H : List HE) : Prop := ∃ a c, v = .slice a l.length c ∧ SA a l.length ∧ H = [.own (rowsT 43 l) (.slice a l.length c)]
end Go.Proofs.YtijjkfbkihgfgaaGreat

namespace Go.Proofs.YtijjkfbkihgfgaaGreat
open Go.Lg Go.Proofs Go.RowKit
attribute [local irreducible] Code.wp wpList bodyPost Exit.then Exit.inBlock Hp Again Calls Y AT ResV QT Qn QI wpAny wpAnyQ
set_option maxRecDepth 20000
set_option maxHeartbeats 4000000

def FineP (p n : Int) (l : List (List Int)) : Prop := FieldP p ∧ (0 ≤ n ∧ n ≤ 8) ∧ l.length ≤ 16 ∧ ∀ v ∈ l, (v.length : Int) = n ∧ VecP p v
instance (p n : Int) (l : List (List Int)) : Decidable (FineP p n l) := by unfold FineP; infer_instance
end Go.Proofs.YtijjkfbkihgfgaaGreat

namespace Go.Proofs.YtijjkfbkihgfgaaGreat
open Go.Lg Go.Proofs Go.RowKit
attribute [local irreducible] Code.wp wpList bodyPost Exit.then Exit.inBlock Hp Again Calls Y AT ResV QT Qn QI wpAny wpAnyQ
set_option maxRecDepth 20000
set_option maxHeartbeats 4000000

def rowL (C : Nat) (g : Nat → Nat → Int) (k : Nat) : List (List Int) := (List.range k).map (fun i => mkv C (g i))
@[simp] theorem rowL_length {C : Nat} {g : Nat → Nat → Int} {k : Nat} : (rowL C g k).length = k := by simp [rowL]
def basL (p : Int) (C : Nat) (rs : List (List Int)) : List (List Int) := rowL C (redTo p rs.length (rowsF rs) C).1 (redTo p rs.length (rowsF rs) C).2.length
def RowsP (p : Int) (C : Nat) (rs : List (List Int)) : Prop := ∀ xs ∈ rs, xs.length = C ∧ InP 0 (p - 1) xs
theorem RowsP.inF {p : Int} {C : Nat} {rs : List (List Int)} (h : RowsP p C rs) : inF p rs.length C (rowsF rs) := fun i j hi hj => by
  have hx : rs[i]? = some (rs.getD i []) := getD_some hi
  obtain ⟨h1, h2⟩ := h _ (List.mem_of_getElem? hx)
  have := inP_get h2 (i := j) om
  unfold rowsF
  omega
theorem FineP.rows {p n : Int} {l : List (List Int)} (h : FineP p n l) : ∃ C : Nat, n = C ∧ C ≤ 8 ∧ RowsP p C l := by
  obtain ⟨_, h1, _, h2⟩ := h
  refine ⟨n.toNat, by omega, by omega, fun xs hx => ?_⟩
  obtain ⟨h3, h4⟩ := h2 xs hx
  exact ⟨by omega, h4.2.2⟩
theorem mk_row {R C i : Nat} {g : Nat → Nat → Int} (hi : i < R) : ((mk R C g).drop (i * C)).take C = mkv C (g i) := by
  apply List.ext_getElem?
  intro q
  rw [List.getElem?_take]
  by_cases hq : q < C
  · have hc := cell_lt (R := R) hi hq
    have h1 := mk_get (f := g) hi hq
    rw [if_pos hq, List.getElem?_drop, getD_some (z := 0) (by rw [mk_length]; exact hc), h1]
    simp [mkv, hq]
  · rw [if_neg hq, List.getElem?_eq_none (by simp; omega)]
theorem row_rds {w : World} {R C i cap : Nat} {g : Nat → Nat → Int} {a : Option Addr} (hr : Rd w (iT (mk R C g)) (.slice a (R * C) cap)) (hi : i < R) : Rd w (iT (mkv C (g i))) (.slice (subA a 1 (i * C) cap) C (cap - i * C)) := by
  have h1 : (i + 1) * C ≤ R * C := Nat.mul_le_mul_right C hi
  rw [Nat.succ_mul] at h1
  have h := Rd.part (lo := i * C) (hi := i * C + C) hr om h1
  rw [show i * C + C - i * C = C by omega] at h
  have e : ((it (mk R C g)).drop (i * C * 1)).take (C * 1) = it (mkv C (g i)) := by
    rw [Nat.mul_one, Nat.mul_one, ← mk_row hi]
    simp [it, List.map_take, List.map_drop]
  rw [e] at h
  exact h
theorem bld_mat20 (r k : Int) (w : World) : (Instr.build 47 #[(0, iV r), (1, iV k)]).run Tryz.prog w = .ok (.agg #[iV r, iV k, .slice none 0 0]) w := by kernel_rfl
theorem l5Rows_ok {w : World} {e C : Nat} {rs : List (List Int)} {v : Value} (hr : Rd w (rowsT e rs) v) (hl : ∀ xs ∈ rs, xs.length = C) (hb : rs.length ≤ 1024) (hC : C ≤ 1024) : Does Tryz.prog 108 [iV C, v] w (GivesK rs.length C (rowsF rs)) := by
  obtain ⟨a, c, rfl, hs, hc1, hc2, hget⟩ := rd_rows hr
  unfold maxLen at hc2
  have hfl := flat_mk hl
  have hRC := rc_le hb hC
  have hfn : rs.flatten.length = rs.length * C := by rw [hfl, mk_length]
  refine fn_enter Tryz.func108 rfl Tryz.ntmps108 rfl ?_
  repeat' (first | (show oL; first | refine sMv rfl rfl ?_ | refine sAs rfl rfl ?_ | refine sLn tabs rfl rfl rfl ?_ | (show oA (.store _ _ _); refine m_storeb 0 tabs rfl rfl rfl rfl rfl rfl rfl ?_) | (show oA (.alloc _); refine m_alloc tabs rfl rfl (fun b5 hb5 => ?_)) | (show oA (.build _ _); refine st_y (y_bld2 (bld_mat20 _ _) rfl rfl) rfl ?_)) | refine xNt ?_ | (show oC; first | refine c_seq ?_ | refine c_region ?_ | refine c_block ?_))
  rename_i b4 hb4
  refine c_loopH (α := Nat × Option Addr × Nat) [1, 4, 5] (fun q => [(6, .int .i64 q.1)]) (fun q => q.1 ≤ rs.length) (fun q => [.own (iT (rs.take q.1).flatten) (.slice q.2.1 (flN rs q.1) q.2.2), .blk b5 #[iV rs.length, iV C, .slice q.2.1 (flN rs q.1) q.2.2] 47, .blk b4 #[iV 0, iV 0, .slice none 0 0] 47]) (fun q => rs.length - q.1) (0, none, 0) rfl sB ?_ ?_ ?_
  · exact Nat.zero_le _
  · exact fun w' c' => Hp.nilp _ _ c'
  · rintro ⟨i, al, cl⟩ hi
    simp only at hi ⊢
    by_cases hin : i < rs.length
    · obtain ⟨xs, hx⟩ : ∃ xs, rs[i]? = some xs := ⟨_, List.getElem?_eq_getElem hin⟩
      obtain ⟨a2, c2, g1, g2⟩ := hget i xs hx
      have hnx := flN_next hx
      have hle := flN_le rs (i + 1)
      repeat' (first | (show oL; first | refine sMv rfl rfl ?_ | refine sAs rfl rfl ?_ | refine sFd tabs rfl rfl rfl rfl ?_ | (show oA (.binOp _ _ _ _ _); first | refine sAd rfl rfl om rfl ?_ | refine sLs rfl rfl rfl ?_) | (show oA (.call _); first | refine m_appi 0 tabs (xs := (rs.take i).flatten) rfl rfl rfl rfl rfl (by have : (rs.take i).flatten.length = flN rs i := rfl; omega) (fun w c => rd_src (c.rd g2)) (fun a3 c3 => ?_) | refine sLn tabs rfl rfl rfl ?_) | (show oA (.store _ _ _); refine m_storef 1 tabs rfl rfl rfl rfl rfl rfl ?_)) | (show oN; first | refine c_nil (x_then ?_) | refine c_nil ?_) | (show oC; first | refine c_tailR 6 kr kr kr kr kr kr (fun _ c => Hp.drew c) ?_ | refine c_seq ?_ | refine c_region ?_ | refine c_skip (x_then ?_) | refine c_block ?_ | refine c_ift rfl aO ?_) | (show QT _ _ _ _ _ _ (_ :: _); first | refine qMv rfl rfl ?_ | refine qFd tabs rfl rfl rfl rfl ?_ | (show qA (.load _ _); first | refine q_y (y_load tabs rfl rfl (hc_w0 g1)) rfl ?_ | refine qLd 1 tabs rfl rfl rfl rfl rfl ?_) | (show qA (.indexAddr _ _ _); refine q_y (y_ix1 tabs (j := i) rfl rfl rfl hs rfl hin) rfl ?_)) | (show QT _ _ _ _ _ _ []; refine q_nil ?_) | (show AT _ _ _ _; first | refine x_then ?_ | refine x_blk ?_))
      refine x_nx (i + 1, a3, c3) sB (by simp only; omega) (fun w' c' => ?_) (by simp only; omega)
      simp only [take_flat hx, hnx]
      exact c'
    · have : i = rs.length := by omega
      subst this
      have hfl2 : flN rs rs.length = rs.length * C := by unfold flN; rw [List.take_length, hfn]
      rw [List.take_length, hfl2, hfl]
      refine AT.fact (own_sl 0 rfl) (fun hsl => ?_)
      obtain ⟨a3, c3, e3, hs3⟩ := hsl
      rw [mk_length] at e3 hs3
      cases e3
      repeat' (first | (show oL; first | refine sMv rfl rfl ?_ | refine sLb 1 tabs rfl rfl rfl rfl rfl ?_ | refine sLs rfl rfl rfl ?_ | refine sLn tabs rfl rfl rfl ?_ | (show oA (.store _ _ _); refine m_storeb 2 tabs rfl rfl rfl rfl rfl rfl rfl ?_)) | refine xNt ?_ | (show oC; first | refine c_seq ?_ | refine c_region ?_ | refine c_ret ?_ | refine c_exit ?_ | refine c_iff rfl nN ?_) | (show AT _ _ _ _; first | refine x_then ?_ | refine x_then_exit ?_ | refine x_blk_exit rfl ?_))
      exact x_ret1 Tryz.results108 (res_cellb 2 tabs rfl rfl rfl rfl) (fun w' c' => ⟨_, _, rfl, ⟨_, _, rfl, hs3, rfl⟩, c'.sub (.cons_cons _ (List.nil_sublist _))⟩)
end Go.Proofs.YtijjkfbkihgfgaaGreat
