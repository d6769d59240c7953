import Derived.Test.YtdnhmnnccfoliaaGreatDoorAppqmt
import Derived.Test.YtdnhmnnccfoliaaGreatDoorCopqmt
import Derived.Test.YtdnhmnnccfoliaaGreatDoorDrwqmt
import Derived.Test.YtdnhmnnccfoliaaGreatDoorFmmqmt
import Derived.Test.YtdnhmnnccfoliaaGreatDoorQscqmt
import Derived.Test.YtdnhmnnccfoliaaGreatDoorZerqmt
namespace Go.Proofs.YtdnhmnnccfoliaaGreatDoor
open Go.Lg Go.Proofs Go.RowKit
attribute [local irreducible] Code.wp wpList bodyPost Exit.then Exit.inBlock Hp Again Calls Y AT ResV QT Qn QI wpAny wpAnyQ
set_option maxRecDepth 20000
set_option maxHeartbeats 4000000

abbrev GivesL (n : Nat) (v : Value) (H : List HE) : Prop := ∃ (xs : List Int) (a : Option Addr) (c : Nat), v = .slice a xs.length c ∧ xs.length = n ∧ H = [.own (iT xs) (.slice a xs.length c)]
theorem l2Vector_ok {w1 : World} {M1 : List Nat} {H1 : List HE} {w : World} {M' : List Nat} {u : Value} {b i : Nat} {h : Int} (p n : Int) (hl : Lent M1 w1 (cu u b i h) H1 M' w) (hc : CodeF w1 M1 u) (hi : i ≤ vlen u) (hn : n ≤ 1000) :
    DoesB Tryz.prog 119 [cuV b, iV p, iV n] w M' (Gcu u b (GivesL n.toNat)) := by
  have hc2 := lent_code hl hc
  refine fnb_lent Tryz.func119 rfl Tryz.ntmps119 rfl hl ?_
  repeat' (first | (show oL; first | refine sAs rfl rfl ?_ | (show oA (.buildSlice _ _ _); refine m_build0 tabs rfl rfl (fun g hg => ?_))) | refine xNt ?_ | (show oC; first | refine c_seq ?_ | refine c_region ?_ | refine c_block ?_))
  refine c_loopH (α := List Int × Option Addr × Nat × Nat × Int) [0, 1, 2] (fun s => [(7, .slice s.2.1 s.1.length s.2.2.1), (8, iV s.1.length)]) (fun s => (s.1.length ≤ n.toNat) ∧ s.2.2.2.1 ≤ vlen u) (fun s => [.own (iT s.1) (.slice s.2.1 s.1.length s.2.2.1), cu u b s.2.2.2.1 s.2.2.2.2]) (fun s => n.toNat - s.1.length) ([], some ⟨g, 0, none⟩, 0, i, h) rfl sB ?_ ?_ ?_
  · exact ⟨Nat.zero_le _, hi⟩
  · exact fun w' c' => c'
  · rintro ⟨xs, a, c, i, ch⟩ ⟨hx, hi⟩
    simp only at hx hi ⊢
    refine AT.fact (own_sl 0 rfl) (fun hsl => ?_)
    obtain ⟨_, _, e, hs⟩ := hsl
    cases e
    repeat' (first | (show oL; first | refine sMv rfl rfl ?_ | refine sAs rfl rfl ?_ | (show oA (.indexAddr _ _ _); refine st_y (y_ix1 tabs (j := 0) rfl rfl rfl hs rfl om) rfl ?_) | (show oA (.binOp _ _ _ _ _); first | refine sAd rfl rfl om rfl ?_ | refine sLs rfl rfl rfl ?_ | refine st_y (y_gtr rfl rfl) rfl ?_) | (show oA (.call _); first | refine st_y (y_max rfl rfl) rfl ?_ | refine st_y (y_min rfl rfl) rfl ?_ | (refine m_callL 1 (ent_of Tryz.func100 kr rfl) rfl rfl rfl (fun w M' hl => l1Below_ok (max 1 (min 5 p)) hl hc2 hi) ?_; rintro v H' ⟨i, ch, _, hi, rfl, x, rfl, hx, rfl⟩) | refine m_pushi 1 tabs rfl rfl rfl rfl rfl om (fun a9 c9 => ?_) | (refine m_callL 1 (ent_of Tryz.func108 kr rfl) rfl rfl rfl (fun w M' hl => l1Once_ok 20 hl hc2 hi) ?_; rintro v H' ⟨i, ch, _, hi, rfl, (_ | _), rfl, rfl⟩) | (refine m_callL 1 (ent_of Tryz.func161 kr rfl) rfl rfl rfl (fun w M' hl => l1PickInt_ok hl hc2 hi (hl.own 0 rfl) (by decide)) ?_; rintro v H' ⟨i, ch, _, hi, rfl, x, rfl, hx, rfl⟩)) | (show oA (.pick _ _ _); first | refine st_y (y_pickt rfl aO rfl) rfl ?_ | refine st_y (y_pickf rfl aO rfl) rfl ?_) | (show oA (.store _ _ _); refine m_storeo 2 (j := 0) tabs rfl rfl rfl rfl om ?_) | (show oA (.buildSlice _ _ _); first | refine m_build1 tabs (us := [iV x]) rfl rfl rfl rfl (by decide) rfl (fun g5 hg5 => ?_) | refine m_buildi tabs [-1, 5, 9223372036854775807] rfl rfl rfl rfl rfl rfl rfl (fun g hg => ?_)) | refine st_gdy rfl rfl aO ?_ | refine st_gdn rfl rfl aO rfl ?_ | refine st_gd rfl rfl (fun h => ?_) (fun h => ?_)) | (show oN; first | refine c_nil (x_then ?_) | refine c_nil ?_) | (show oC; first | refine c_seq ?_ | refine c_region ?_ | refine c_skip (x_then ?_) | refine c_block ?_ | refine c_ret ?_ | refine c_exit ?_ | refine c_true rfl ?_ | refine c_false rfl ?_ | refine c_if rfl (fun h => ?_) (fun h => ?_)) | (show AT _ _ _ _; first | refine x_then ?_ | refine x_then_exit ?_ | refine x_blk_exit rfl ?_ | refine x_blk ?_))
    · exact x_nx (xs ++ [x], a9, c9, i, ch) (by simp only [List.length_append, List.length_singleton]; repeat' (first | exact Sub.nil | refine Sub.cons rfl ?_ | refine Sub.consi rfl om ?_)) ⟨by simp only [List.length_append, List.length_singleton]; omega, hi⟩ (fun w' c' => by rw [List.length_append]; exact c') (by simp only [List.length_append, List.length_singleton]; omega)
    · exact x_ret1 Tryz.results119 (res_tmp rfl) (fun w' c' => ⟨_, _, rfl, ⟨i, ch, _, hi, rfl, xs, a, c, rfl, by omega, rfl⟩, c'⟩)
    · exact x_ret1 Tryz.results119 (res_tmp rfl) (fun w' c' => ⟨_, _, rfl, ⟨i, ch, _, hi, rfl, xs.set 0 x, a, c, by rw [List.length_set], by rw [List.length_set]; omega, rfl⟩, by rw [List.length_set]; exact c'.sub (.cons_cons _ (.cons _ (List.Sublist.refl _)))⟩)
    · exact x_ret1 Tryz.results119 (res_tmp rfl) (fun w' c' => ⟨_, _, rfl, ⟨i, _, _, hi, rfl, xs, a, c, rfl, by omega, rfl⟩, c'.swap⟩)
theorem l3Random_ok {w1 : World} {M1 : List Nat} {H1 : List HE} {w : World} {M' : List Nat} {u : Value} {b i : Nat} {h : Int} (p : Int) {R C : Nat} (hl : Lent M1 w1 (cu u b i h) H1 M' w) (hc : CodeF w1 M1 u) (hi : i ≤ vlen u) (hR : R ≤ 1000) (hC : C ≤ 1000) :
    DoesB Tryz.prog 109 [cuV b, iV p, iV R, iV C] w M' (Gcu u b (fun v H => ∃ (xs : List Int) (a : Option Addr) (c : Nat), v = .agg #[iV R, iV C, .slice a xs.length c] ∧ xs.length = R * C ∧ H = [.own (iT xs) (.slice a xs.length c)])) := by
  have hc2 := lent_code hl hc
  have hRC := rc_le (R := R) (C := C) om om
  refine fnb_lent Tryz.func109 rfl Tryz.ntmps109 rfl hl ?_
  repeat' (first | (show oL; first | refine sMv rfl rfl ?_ | refine sAs rfl rfl ?_ | (show oA (.call _); (refine m_call (ent_of Tryz.func125 kr rfl) rfl rfl (fun w c => l3Zero_ok (R := R) (C := C) om om) ?_; rintro v H' ⟨am, cm, rfl, hsm, rfl⟩)) | (show oA (.store _ _ _); refine m_storeb 0 tabs rfl rfl rfl rfl rfl rfl rfl ?_) | (show oA (.alloc _); refine m_alloc tabs rfl rfl (fun b9 hb9 => ?_))) | refine xNt ?_ | (show oC; first | refine c_seq ?_ | refine c_region ?_ | refine c_block ?_))
  rename_i b8 hb8
  refine c_loopH (α := List Int × Nat × Nat × Int) [0, 1, 8, 9] (fun s => [(10, iV s.2.1)]) (fun s => (s.1.length = R * C ∧ s.2.1 ≤ R * C) ∧ s.2.2.1 ≤ vlen u) (fun s => [.own (iT s.1) (.slice am (R * C) cm), cu u b s.2.2.1 s.2.2.2, .blk b9 #[iV R, iV C, .slice am (R * C) cm] 41, .blk b8 #[iV 0, iV 0, .slice none 0 0] 41]) (fun s => R * C - s.2.1) (mk R C (fun _ _ => 0), 0, i, h) rfl sB ?_ ?_ ?_
  · exact ⟨⟨by simp, Nat.zero_le _⟩, hi⟩
  · intro w' c'
    have h1 := (c'.front (i := 3) rfl).front (i := 2) rfl
    exact h1
  · rintro ⟨xs, k, i, ch⟩ ⟨⟨hx, hk⟩, hi⟩
    simp only at hx hk hi ⊢
    by_cases hin : k < R * C
    · repeat' (first | (show oL; first | refine sMv rfl rfl ?_ | refine sFd tabs rfl rfl rfl rfl ?_ | refine sLd 2 tabs rfl rfl rfl rfl rfl ?_ | refine sLs rfl rfl rfl ?_ | refine sLn tabs rfl rfl rfl ?_) | refine xNt ?_ | (show oC; first | refine c_seq ?_ | refine c_region ?_ | refine c_skip (x_then ?_) | refine c_block ?_ | refine c_ift rfl aO ?_))
      refine c_all (Hp M' w [.blk b9 #[iV R, iV C, .slice am (R * C) cm] 41]) kr (fun _ c => Hp.drew c) ?_
      refine h_take 0 rfl kr kr kr (by exact y_field tabs rfl rfl rfl) rfl sS ?_
      refine h_take 1 rfl kr kr kr (by exact y_load tabs rfl rfl (hc_blk 0 rfl rfl)) rfl sS ?_
      refine h_take 2 rfl kr kr kr (by exact y_move rfl) rfl sS ?_
      refine h_take 3 rfl kr kr kr (by exact y_move rfl) rfl sS ?_
      refine h_take 4 rfl kr kr kr (by exact y_move rfl) rfl sS ?_
      refine h_take 5 rfl kr kr kr (by exact y_min rfl rfl) rfl sS ?_
      refine h_take 6 rfl kr kr kr (by exact y_max rfl rfl) rfl sS ?_
      refine h_only 7 rfl kr ?_
      first | (refine m_callL 1 (ent_of Tryz.func100 kr rfl) rfl rfl rfl (fun w M' hl => l1Below_ok (max 1 (min 5 p)) hl hc2 hi) ?_; rintro v H' ⟨i, ch, _, hi, rfl, x, rfl, hx2, rfl⟩) | (refine m_storeo 1 (j := k) tabs rfl rfl rfl rfl om ?_)
      refine c_nil (x_one (h_keep sS ?_))
      refine h_take 8 rfl kr kr kr (by exact y_ix1 tabs (j := k) rfl rfl rfl hsm rfl hin) rfl sS ?_
      refine h_only 9 rfl kr ?_
      first | (refine m_callL 1 (ent_of Tryz.func100 kr rfl) rfl rfl rfl (fun w M' hl => l1Below_ok (max 1 (min 5 p)) hl hc2 hi) ?_; rintro v H' ⟨i, ch, _, hi, rfl, x, rfl, hx2, rfl⟩) | (refine m_storeo 1 (j := k) tabs rfl rfl rfl rfl om ?_)
      refine c_nil (x_one (h_keep sS ?_))
      refine h_end kr ?_
      repeat' (first | (show oL; first | refine sMv rfl rfl ?_ | refine sAs rfl rfl ?_ | refine sAd rfl rfl om rfl ?_) | refine xNt ?_ | (show oC; refine c_region ?_) | (show AT _ _ _ _; first | refine x_then ?_ | refine x_blk ?_))
      exact x_nx (xs.set k x, k + 1, i, ch) sB ⟨⟨by simp only [List.length_set]; omega, by simp only; omega⟩, hi⟩ (fun w' c' => c'.swap) (by simp only; omega)
    · have : k = R * C := by omega
      subst this
      repeat' (first | (show oL; first | refine sMv rfl rfl ?_ | refine sFd tabs rfl rfl rfl rfl ?_ | (show oA (.load _ _); first | refine sLd 2 tabs rfl rfl rfl rfl rfl ?_ | refine sLb 2 tabs rfl rfl rfl rfl rfl ?_) | refine sLs rfl rfl rfl ?_ | refine sLn tabs rfl rfl rfl ?_ | (show oA (.store _ _ _); refine m_storeb 3 tabs rfl rfl rfl rfl rfl rfl rfl ?_)) | refine xNt ?_ | (show oC; first | refine c_seq ?_ | refine c_region ?_ | refine c_ret ?_ | refine c_exit ?_ | refine c_iff rfl nN ?_) | (show AT _ _ _ _; first | refine x_then ?_ | refine x_then_exit ?_ | refine x_blk_exit rfl ?_))
      exact x_ret1 Tryz.results109 (res_cellb 3 tabs rfl rfl rfl rfl) (fun w' c' => ⟨_, _, rfl, ⟨i, ch, _, hi, rfl, xs, am, cm, by rw [hx], hx, rfl⟩, by rw [hx]; exact c'.swap.sub (.cons_cons _ (.cons_cons _ (List.nil_sublist _)))⟩)
abbrev GivesAny (v : Value) (H : List HE) : Prop := ∃ (m : Mat) (a : Option Addr) (c : Nat), v = .agg #[iV m.1, iV m.2.1, .slice a m.2.2.length c] ∧ (m.2.2.length ≤ 16 ∧ 0 ≤ m.2.1 ∧ m.2.1 ≤ 3) ∧ H = [.own (iT m.2.2) (.slice a m.2.2.length c)]
theorem l3Any_ok {w1 : World} {M1 : List Nat} {H1 : List HE} {w : World} {M' : List Nat} {u : Value} {b i : Nat} {h : Int} (p : Int) (hl : Lent M1 w1 (cu u b i h) H1 M' w) (hc : CodeF w1 M1 u) (hi : i ≤ vlen u) :
    DoesB Tryz.prog 99 [cuV b, iV p] w M' (Gcu u b GivesAny) := by
  have hc2 := lent_code hl hc
  refine fnb_lent Tryz.func99 rfl Tryz.ntmps99 rfl hl ?_
  have hRC : ∀ R C : Nat, R < 4 → C < 4 → R * C ≤ 9 := fun R C hR hC => Nat.mul_le_mul (show R ≤ 3 by omega) (show C ≤ 3 by omega)
  repeat' (first | (show oL; first | refine sMv rfl rfl ?_ | refine sAs rfl rfl ?_ | refine sFd tabs rfl rfl rfl rfl ?_ | (show oA (.load _ _); first | refine sLd 1 tabs rfl rfl rfl rfl rfl ?_ | refine sLb 1 tabs rfl rfl rfl rfl rfl ?_ | refine sLb 2 tabs rfl rfl rfl rfl rfl ?_) | (show oA (.binOp _ _ _ _ _); first | refine st_y (y_gtr rfl rfl) rfl ?_ | refine st_y (y_eql rfl rfl) rfl ?_) | (show oA (.call _); first | (refine m_callL 1 (ent_of Tryz.func100 kr rfl) rfl rfl rfl (fun w M' hl => l1BelowN_ok 4 (by decide) hl hc2 hi) ?_; rintro v H' ⟨i, ch, _, hi, rfl, R, rfl, hR, rfl⟩) | (refine m_callL 0 (ent_of Tryz.func100 kr rfl) rfl rfl rfl (fun w M' hl => l1BelowN_ok 4 (by decide) hl hc2 hi) ?_; rintro v H' ⟨i, ch, _, hi, rfl, C, rfl, hC, rfl⟩) | (refine m_callL 0 (ent_of Tryz.func109 kr rfl) rfl rfl rfl (fun w M' hl => l3Random_ok p (R := R) (C := C) hl hc2 hi om om) ?_; rintro v H' ⟨i, ch, _, hi, rfl, xs, a, c, rfl, hx, rfl⟩; have hxl := hRC R C hR hC; rw [← hx] at hxl) | (refine m_callL 1 (ent_of Tryz.func100 kr rfl) rfl rfl rfl (fun w M' hl => l1BelowN_ok 18 (by decide) hl hc2 hi) ?_; rintro v H' ⟨i, ch, _, hi, rfl, z, rfl, hz, rfl⟩) | (refine m_callL 1 (ent_of Tryz.func161 kr rfl) rfl rfl rfl (fun w M' hl => l1PickInt_ok hl hc2 hi (hl.own 0 rfl) (by decide)) ?_; rintro v H' ⟨i, ch, _, hi, rfl, y, rfl, hy, rfl⟩) | refine m_pushi 2 tabs rfl rfl rfl rfl rfl om (fun a9 c9 => ?_) | refine sLn tabs rfl rfl rfl ?_) | (show oA (.store _ _ _); first | refine m_storeb 0 tabs rfl rfl rfl rfl rfl rfl rfl ?_ | refine m_storef 2 tabs rfl rfl rfl rfl rfl rfl ?_ | refine m_storeb 4 tabs rfl rfl rfl rfl rfl rfl rfl ?_ | refine m_storeb 3 tabs rfl rfl rfl rfl rfl rfl rfl ?_) | (show oA (.alloc _); refine m_alloc tabs rfl rfl (fun b9 hb9 => ?_)) | (show oA (.buildSlice _ _ _); first | refine m_buildi tabs [-1, 9, 2, 9223372036854775807] rfl rfl rfl rfl rfl rfl rfl (fun g hg => ?_) | refine m_build1 tabs (us := [iV 0]) rfl rfl rfl rfl (by decide) rfl (fun g5 hg5 => ?_))) | (show oN; first | refine c_nil (x_then ?_) | refine c_nil ?_) | (show oC; first | refine c_seq ?_ | refine c_region ?_ | refine c_skip (x_blk ?_) | refine c_block ?_ | refine c_ret ?_ | refine c_if rfl (fun h => ?_) (fun h => ?_)) | (show AT _ _ _ _; first | refine x_then ?_ | refine x_blk ?_))
  · exact x_ret1 Tryz.results99 (res_cellb 4 tabs rfl rfl rfl rfl) (fun w' c' => ⟨_, _, rfl, ⟨i, ch, _, hi, rfl, (y, (C : Int), xs), a, c, rfl, ⟨by simp only; omega, by simp only; omega, by simp only; omega⟩, rfl⟩, c'.sub (.cons_cons _ (.cons _ (.cons _ (.cons_cons _ (List.nil_sublist _)))))⟩)
  · exact x_ret1 Tryz.results99 (res_cellb 3 tabs rfl rfl rfl rfl) (fun w' c' => ⟨_, _, rfl, ⟨i, ch, _, hi, rfl, ((R : Int), (C : Int), xs ++ [0]), a9, c9, by rw [List.length_append]; rfl, ⟨by simp only [List.length_append, List.length_singleton]; omega, by simp only; omega, by simp only; omega⟩, rfl⟩, by rw [List.length_append]; exact c'.swap.sub (.cons_cons _ (.cons_cons _ (List.nil_sublist _)))⟩)
  · rename_i b8 hb8 _ _ _ _ _ _ _ _ _ _ _ _
    refine AT.fact (own_sl 2 rfl) (fun hsl => ?_)
    obtain ⟨_, _, e, hs⟩ := hsl
    cases e
    refine c_all (Hp M' w [.blk b9 #[iV R, iV C, .slice a xs.length c] 41]) kr (fun _ c => Hp.drew c) ?_
    refine h_take 0 rfl kr kr kr (by exact y_field tabs rfl rfl rfl) rfl sS ?_
    refine h_take 1 rfl kr kr kr (by exact y_load tabs rfl rfl (hc_blk 0 rfl rfl)) rfl sS ?_
    refine h_take 2 rfl kr kr kr (by exact y_move rfl) rfl sS ?_
    refine h_only 3 rfl kr ?_
    first | (refine m_buildi tabs [-1, 5, 2] rfl rfl rfl rfl rfl rfl rfl (fun g hg => ?_)) | (refine m_callL 1 (ent_of Tryz.func161 kr rfl) rfl rfl rfl (fun w M' hl => l1PickInt_ok hl hc2 hi (hl.own 0 rfl) (by decide)) ?_; rintro v H' ⟨i, ch, _, hi, rfl, y, rfl, hy, rfl⟩) | (refine m_storeo 3 (j := 0) tabs rfl rfl rfl rfl om ?_)
    refine c_nil (x_one (h_keep sS ?_))
    refine h_only 4 rfl kr ?_
    first | (refine m_buildi tabs [-1, 5, 2] rfl rfl rfl rfl rfl rfl rfl (fun g hg => ?_)) | (refine m_callL 1 (ent_of Tryz.func161 kr rfl) rfl rfl rfl (fun w M' hl => l1PickInt_ok hl hc2 hi (hl.own 0 rfl) (by decide)) ?_; rintro v H' ⟨i, ch, _, hi, rfl, y, rfl, hy, rfl⟩) | (refine m_storeo 3 (j := 0) tabs rfl rfl rfl rfl om ?_)
    refine c_nil (x_one (h_keep sS ?_))
    refine h_take 5 rfl kr kr kr (by exact y_ix1 tabs (j := 0) rfl rfl rfl hs rfl om) rfl sS ?_
    refine h_only 6 rfl kr ?_
    first | (refine m_buildi tabs [-1, 5, 2] rfl rfl rfl rfl rfl rfl rfl (fun g hg => ?_)) | (refine m_callL 1 (ent_of Tryz.func161 kr rfl) rfl rfl rfl (fun w M' hl => l1PickInt_ok hl hc2 hi (hl.own 0 rfl) (by decide)) ?_; rintro v H' ⟨i, ch, _, hi, rfl, y, rfl, hy, rfl⟩) | (refine m_storeo 3 (j := 0) tabs rfl rfl rfl rfl om ?_)
    refine c_nil (x_one (h_keep sS ?_))
    refine h_end kr ?_
    repeat' (first | (show oL; first | refine sLb 2 tabs rfl rfl rfl rfl rfl ?_ | (show oA (.store _ _ _); refine m_storeb 4 tabs rfl rfl rfl rfl rfl rfl rfl ?_)) | refine xNt ?_ | (show oC; first | refine c_seq ?_ | refine c_region ?_ | refine c_ret ?_) | (show AT _ _ _ _; first | refine x_then ?_ | refine x_blk ?_))
    exact x_ret1 Tryz.results99 (res_cellb 4 tabs rfl rfl rfl rfl) (fun w' c' => ⟨_, _, rfl, ⟨i, ch, _, hi, rfl, ((R : Int), (C : Int), xs.set 0 y), a, c, by rw [List.length_set], ⟨by simp only [List.length_set]; omega, by simp only; omega, by simp only; omega⟩, rfl⟩, by rw [List.length_set]; exact c'.sub (.cons_cons _ (.cons _ (.cons _ (.cons_cons _ (List.nil_sublist _)))))⟩)
  all_goals exact x_ret1 Tryz.results99 (res_cellb 3 tabs rfl rfl rfl rfl) (fun w' c' => ⟨_, _, rfl, ⟨i, ch, _, hi, rfl, ((R : Int), (C : Int), xs), a, c, rfl, ⟨by simp only; omega, by simp only; omega, by simp only; omega⟩, rfl⟩, c'.sub (.cons_cons _ (.cons _ (.cons_cons _ (List.nil_sublist _))))⟩)
theorem hp_code {w w' : World} {H : List HE} {u : Value} (c : Hp [] w H w') (hc : CodeF w [] u) : CodeF w' [] u := by
  obtain ⟨xs, h, hb⟩ := hc
  exact ⟨xs, RdOut.of_rd (h.rd c), hb⟩
abbrev GivesPM (v : Value) (H : List HE) : Prop := ∃ (p : Int) (m : Mat) (a : Option Addr) (c : Nat), v = .tuple #[iV p, .agg #[iV m.1, iV m.2.1, .slice a m.2.2.length c]] ∧ (m.2.2.length ≤ 16 ∧ 0 ≤ m.2.1 ∧ m.2.1 ≤ 3) ∧ H = [.own (iT m.2.2) (.slice a m.2.2.length c)]
theorem l3One_ok {w : World} {u : Value} (hc : CodeF w [] u) : Does Tryz.prog 90 [u] w GivesPM := by
  refine fn_enter Tryz.func90 rfl Tryz.ntmps90 rfl ?_
  repeat' (first | (show oL; first | refine sMv rfl rfl ?_ | refine sAs rfl rfl ?_ | (show oA (.call _); first | (refine m_call (ent_of Tryz.func97 kr rfl) rfl rfl (fun w c => l1New_ok (hp_code c hc)) ?_; rintro v H' ⟨b, ch, rfl, rfl⟩) | (refine m_callL 0 (ent_of Tryz.func98 kr rfl) rfl rfl rfl (fun w M' hl => l2Prime_ok hl hc (Nat.zero_le _)) ?_; rintro v H' ⟨i, ch, _, hi, rfl, p, rfl, hp, rfl⟩) | (refine m_callL 0 (ent_of Tryz.func99 kr rfl) rfl rfl rfl (fun w M' hl => l3Any_ok p hl hc hi) ?_; rintro v H' ⟨i, ch, _, hi, rfl, m, a, c, rfl, hm, rfl⟩)) | (show oA (.store _ _ _); refine m_storeb 2 tabs rfl rfl rfl rfl rfl rfl rfl ?_) | (show oA (.alloc _); refine m_alloc tabs rfl rfl (fun b9 hb9 => ?_))) | refine xNt ?_ | (show oC; first | refine c_seq ?_ | refine c_region ?_ | refine c_ret ?_))
  all_goals exact x_ret2 Tryz.results90 (res_tmp rfl) (res_cellb 2 tabs rfl rfl rfl rfl) (fun w' c' => ⟨_, _, rfl, ⟨p, m, a, c, rfl, hm, rfl⟩, c'.sub (.cons _ (.cons_cons _ (List.nil_sublist _)))⟩)
end Go.Proofs.YtdnhmnnccfoliaaGreatDoor

namespace Go.Proofs.YtdnhmnnccfoliaaGreatDoor
open Go.Lg Go.Proofs Go.RowKit
attribute [local irreducible] Code.wp wpList bodyPost Exit.then Exit.inBlock Hp Again Calls Y AT ResV QT Qn QI wpAny wpAnyQ
set_option maxRecDepth 20000
set_option maxHeartbeats 4000000

theorem l1Pick_ok {w1 : World} {M1 : List Nat} {H1 : List HE} {w : World} {M' : List Nat} {u v : Value} {b i : Nat} {h : Int} {l : List (List UInt8)} (hl : Lent M1 w1 (cu u b i h) H1 M' w) (hc : CodeF w1 M1 u) (hi : i ≤ vlen u) (hr : RdOut w M' (strT l) v) (hx : 0 < l.length) :
    DoesB Tryz.prog 102 [cuV b, v] w M' (Gcu u b (fun v H => ∃ x, v = sV x ∧ x ∈ l ∧ H = [])) := by
  have hc2 := lent_code hl hc
  obtain ⟨a, m, cap, rfl, hs, hmc, _, hlen, hg⟩ := RdOut.open (by decide) hr
  have hm : l.length = m := by simpa using hlen
  subst hm
  have hg' : ∀ j, j < l.length → ∀ w', Agree M' w w' → w'.cell? ⟨ab a, ao a + j, none⟩ = some (sV (l.getD j [])) := fun j hj => by
    obtain ⟨x, c, r⟩ := hg j (.c (sV (l.getD j []))) (by simp [List.getD, hj])
    rw [r.c] at c
    exact c
  have hmem : ∀ k : Int, 0 ≤ k → k < l.length → l.getD k.toNat [] ∈ l := fun k h0 h1 => by
    rw [List.getD, List.getElem?_eq_getElem (show k.toNat < l.length by omega)]; exact List.getElem_mem _
  refine fnb_lent Tryz.func102 rfl Tryz.ntmps102 rfl hl ?_
  repeat' (first | (show oL; first | refine sMv rfl rfl ?_ | refine sAs rfl rfl ?_ | (show oA (.load _ _); refine st_y (y_load tabs rfl rfl (fun w' c' => hg' _ om w' c'.agree)) rfl ?_) | (show oA (.indexAddr _ _ _); refine st_y (y_ixi tabs rfl rfl rfl hs om om) rfl ?_) | (show oA (.call _); first | (refine m_callL 0 (ent_of Tryz.func100 kr rfl) rfl rfl rfl (fun w M' hl => l1Below_ok l.length hl hc2 hi) ?_; rintro v H' ⟨i, h, _, hi, rfl, x, rfl, hx, rfl⟩) | refine sLn tabs rfl rfl rfl ?_)) | refine xNt ?_ | (show oC; first | refine c_seq ?_ | refine c_region ?_ | refine c_ret ?_))
  exact x_ret1 Tryz.results102 (res_tmp rfl) (fun w' c' => ⟨_, _, rfl, ⟨i, _, [], hi, rfl, _, rfl, hmem _ om om, rfl⟩, c'⟩)
end Go.Proofs.YtdnhmnnccfoliaaGreatDoor

namespace Go.Lg
open Go.RowKit
section
variable {P : Program} {n : Nat} {C : World → Prop} {s : List (Nat × Value)} {ty t : Nat} {x lo' hi' : Operand}
theorem y_slsh {a : List UInt8} {j : Nat} {q : Int} (ht : P.underlying t = some .string) (hx : ev s x = some (sV a)) (hh : ev s hi' = some (.int .i64 q)) (hq : q = (j : Int)) (h2 : j ≤ a.length) : Y P n C s (.slice t x none (some hi') none) ty (sV (a.take j)) := fun aa w f c d pos af g => by
  subst hq
  simp only [sV] at hx
  have h := run_slice_string_h (P := P) w t ⟨a.toArray⟩ ht .i64 j om (by simp [ByteArray.size]; omega)
  simp only [Int.toNat_natCast, ByteArray.extract_mk] at h
  simp [execOp, f.ev hx, f.ev hh, run_sliceAt_string, ht, h, sV]
theorem y_slsl {a : List UInt8} {i : Nat} {p : Int} (ht : P.underlying t = some .string) (hx : ev s x = some (sV a)) (hl : ev s lo' = some (.int .i64 p)) (hp : p = (i : Int)) (h2 : i ≤ a.length) : Y P n C s (.slice t x (some lo') none none) ty (sV (a.drop i)) := fun aa w f c d pos af g => by
  subst hp
  simp only [sV] at hx
  have h := run_slice_string_l (P := P) w t ⟨a.toArray⟩ ht .i64 i om (by simp [ByteArray.size]; omega)
  simp only [Int.toNat_natCast, ByteArray.extract_mk] at h
  have e : List.take (a.length - i) (List.drop i a) = List.drop i a := List.take_of_length_le (by rw [List.length_drop]; exact Nat.le_refl _)
  simp [execOp, f.ev hx, f.ev hl, run_sliceAt_string, ht, h, sV, ByteArray.size, e]
end
end Go.Lg
namespace Go.Proofs.YtdnhmnnccfoliaaGreatDoor
open Go.Lg Go.Proofs Go.RowKit
attribute [local irreducible] Code.wp wpList bodyPost Exit.then Exit.inBlock Hp Again Calls Y AT ResV QT Qn QI wpAny wpAnyQ
set_option maxRecDepth 20000
set_option maxHeartbeats 4000000

def u8 (x : Int) : UInt8 := UInt8.ofNat (x % 256).toNat
theorem u8_wrap (x : Int) : IntKind.u8.wrap x = ((u8 x).toNat : Int) := by
  have h0 := Int.emod_nonneg x (show (256 : Int) ≠ 0 by decide)
  have h1 := Int.emod_lt_of_pos x (show (0 : Int) < 256 by decide)
  have e : (u8 x).toNat = (x % 256).toNat := by
    rw [u8, UInt8.toNat_ofNat']
    omega
  rw [e]
  simp only [IntKind.wrap, IntKind.bits, IntKind.signed]
  simp
  omega
theorem byl_sl (i : Nat) {M : List Nat} {w0 : World} {H : List HE} {l : List UInt8} {a : Option Addr} {m c : Nat} (hi : H[i]? = some (.own (.s 5 1 ((l.map bV).map T.c)) (.slice a m c))) : ∀ w, Hp M w0 H w → SA a m := fun w cw => by
  obtain ⟨a', m', cap, h1, h2, _⟩ := Rd.open (by decide) (cw.own_rd hi)
  cases h1
  exact h2
theorem l1Text_ok {w1 : World} {M1 : List Nat} {H1 : List HE} {w : World} {M' : List Nat} {u : Value} {b i : Nat} {h : Int} (most : Nat) (hm : most ≤ 100) (hl : Lent M1 w1 (cu u b i h) H1 M' w) (hc : CodeF w1 M1 u) (hi : i ≤ vlen u) :
    DoesB Tryz.prog 163 [cuV b, iV most] w M' (Gcu u b (fun v H => ∃ x, v = sV x ∧ x.length ≤ most ∧ H = [])) := by
  have hc2 := lent_code hl hc
  have e1 : ((most : Int) + 1) = ((most + 1 : Nat) : Int) := by omega
  refine fnb_lent Tryz.func163 rfl Tryz.ntmps163 rfl hl ?_
  repeat' (first | (show oL; first | refine sMv rfl rfl ?_ | refine sAs rfl rfl ?_ | (show oA (.binOp _ _ _ _ _); (refine sAd rfl rfl om rfl ?_; rw [e1])) | (show oA (.call _); first | (refine m_callL 1 (ent_of Tryz.func100 kr rfl) rfl rfl rfl (fun w M' hl => l1BelowN_ok 4 (by decide) hl hc2 hi) ?_; rintro v H' ⟨i, ch, _, hi, rfl, st, rfl, hst, rfl⟩) | (refine m_callL 0 (ent_of Tryz.func100 kr rfl) rfl rfl rfl (fun w M' hl => l1BelowN_ok (most + 1) om hl hc2 hi) ?_; rintro v H' ⟨i, ch, _, hi, rfl, n, rfl, hn, rfl⟩)) | (show oA (.buildSlice _ _ _); refine m_build0 tabs rfl rfl (fun gb hgb => ?_))) | refine xNt ?_ | (show oC; first | refine c_seq ?_ | refine c_region ?_ | refine c_block ?_))
  refine c_loopH (α := List UInt8 × Nat × Option Addr × Nat × Nat × Int) [0, 6] (fun s => [(5, .slice s.2.2.1 s.1.length s.2.2.2.1), (7, iV s.2.1)]) (fun s => (s.1.length + s.2.1 ≤ most) ∧ s.2.2.2.2.1 ≤ vlen u) (fun s => [.own (.s 5 1 ((s.1.map bV).map T.c)) (.slice s.2.2.1 s.1.length s.2.2.2.1), cu u b s.2.2.2.2.1 s.2.2.2.2.2]) (fun s => s.2.1) ([], n, some ⟨gb, 0, none⟩, 0, i, ch) rfl sB ?_ ?_ ?_
  · exact ⟨by simp only [List.length_nil]; omega, hi⟩
  · exact fun w' c' => c'.swap
  · rintro ⟨xs, k, a, c, i, ch⟩ ⟨hx, hi⟩
    simp only at hx hi ⊢
    by_cases hk : 0 < k
    · obtain ⟨k, rfl⟩ : ∃ k', k = k' + 1 := ⟨k - 1, by omega⟩
      repeat' (first | (show oL; first | refine sMv rfl rfl ?_ | refine sAs rfl rfl ?_ | (show oA (.binOp _ _ _ _ _); first | refine st_y (y_rem rfl rfl (by decide)) rfl ?_ | refine st_y (y_add rfl rfl (by have : ((x : Int).tmod 4) = ((x % 4 : Nat) : Int) := rfl; omega)) rfl ?_ | refine st_y (y_sub rfl rfl om) rfl ?_ | refine st_y (y_gtr rfl rfl) rfl ?_ | refine st_y (y_eql rfl rfl) rfl ?_) | (show oA (.call _); first | (refine m_callL 1 (ent_of Tryz.func162 kr rfl) rfl rfl rfl (fun w M' hl => l1Byte_ok hl hc2 hi) ?_; rintro v H' ⟨i, ch, _, hi, rfl, x, rfl, hx3, rfl⟩; obtain ⟨x, rfl⟩ : ∃ k : Nat, x = k := ⟨x.toNat, by omega⟩) | refine m_pushc 1 tabs rfl rfl rfl rfl rfl rfl (by rw [List.length_map]; omega) rfl rfl (fun a9 c9 => ?_)) | (show oA (.buildSlice _ _ _); refine m_build1 tabs (us := [bV y]) rfl rfl rfl rfl (by decide) rfl (fun g5 hg5 => ?_)) | (show oA (.convert _ _ _); (refine st_y (y_convk (t := 3) (t' := 5) (k := .i64) (k' := .u8) kr kr kr rfl (u8_wrap _)) rfl ?_; generalize u8 _ = y))) | (show oN; first | refine c_nil (x_then ?_) | refine c_nil ?_) | (show oC; first | refine c_seq ?_ | refine c_region ?_ | refine c_skip (x_then ?_) | refine c_block ?_ | refine c_ift rfl aO ?_ | refine c_iff rfl nN ?_ | refine c_if rfl (fun h => ?_) (fun h => ?_)) | (show AT _ _ _ _; first | refine x_then ?_ | refine x_blk ?_))
      all_goals exact x_nx (xs ++ [y], k, a9, c9, i, ch) (by simp only [List.length_append, List.length_singleton, List.length_map]; repeat' (first | exact Sub.nil | refine Sub.cons rfl ?_ | refine Sub.consi rfl om ?_)) ⟨by simp only [List.length_append, List.length_singleton]; omega, hi⟩ (fun w' c' => by simp only [List.length_append, List.length_singleton, List.length_map, List.map_append] at c' ⊢; exact c') (by simp only; omega)
    · have : k = 0 := by omega
      subst this
      rcases Nat.eq_zero_or_pos xs.length with h0 | h0
      · obtain rfl : xs = [] := List.eq_nil_of_length_eq_zero h0
        repeat' (first | (show oL; first | refine sMv rfl rfl ?_ | refine sAs rfl rfl ?_ | (show oA (.binOp _ _ _ _ _); refine st_y (y_gtr rfl rfl) rfl ?_) | (show oA (.convert _ _ _); refine st_y (y_convbn (t := 38) (t' := 9) (e := 5) kr kr kr rfl) rfl ?_)) | refine xNt ?_ | (show oC; first | refine c_seq ?_ | refine c_region ?_ | refine c_ret ?_ | refine c_exit ?_ | refine c_false rfl ?_) | (show AT _ _ _ _; first | refine x_then ?_ | refine x_then_exit ?_ | refine x_blk_exit rfl ?_))
        exact x_ret1 Tryz.results163 (res_tmp rfl) (fun w' c' => ⟨_, _, rfl, ⟨i, ch, _, hi, rfl, [], rfl, Nat.zero_le _, rfl⟩, c'.swap.sub (.cons_cons _ (List.nil_sublist _))⟩)
      · refine AT.fact (byl_sl 0 rfl) (fun hs => ?_)
        rw [hs.get h0]
        repeat' (first | (show oL; first | refine sMv rfl rfl ?_ | refine sAs rfl rfl ?_ | (show oA (.binOp _ _ _ _ _); refine st_y (y_gtr rfl rfl) rfl ?_) | (show oA (.convert _ _ _); refine st_y (y_convbs (t := 38) (t' := 9) (e := 5) (l := xs) kr kr kr rfl (fun w c => fun j u hj => by rw [Addr.add_lit]; exact hc_nm (a := some ⟨ab a, ao a, none⟩) 0 rfl hj w c)) rfl ?_)) | refine xNt ?_ | (show oC; first | refine c_seq ?_ | refine c_region ?_ | refine c_ret ?_ | refine c_exit ?_ | refine c_false rfl ?_) | (show AT _ _ _ _; first | refine x_then ?_ | refine x_then_exit ?_ | refine x_blk_exit rfl ?_))
        exact x_ret1 Tryz.results163 (res_tmp rfl) (fun w' c' => ⟨_, _, rfl, ⟨i, ch, _, hi, rfl, xs, rfl, by omega, rfl⟩, c'.swap.sub (.cons_cons _ (List.nil_sublist _))⟩)
theorem l1Spoil_ok {w1 : World} {M1 : List Nat} {H1 : List HE} {w : World} {M' : List Nat} {u : Value} {b i : Nat} {h : Int} {s : List UInt8} (hs : s.length ≤ 1000000) (hl : Lent M1 w1 (cu u b i h) H1 M' w) (hc : CodeF w1 M1 u) (hi : i ≤ vlen u) :
    DoesB Tryz.prog 101 [cuV b, sV s] w M' (Gcu u b (fun v H => ∃ x, v = sV x ∧ x.length ≤ s.length + 3 ∧ H = [])) := by
  have hc2 := lent_code hl hc
  refine fnb_lent Tryz.func101 rfl Tryz.ntmps101 rfl hl ?_
  by_cases h0 : s.length = 0
  · have h0' : ((s.length : Nat) : Int) = 0 := by omega
    repeat' (first | (show oL; first | refine sMv rfl rfl ?_ | refine sAs rfl rfl ?_ | (show oA (.binOp _ _ _ _ _); refine st_y (y_eql rfl rfl) rfl ?_) | (show oA (.call _); first | refine st_y (y_lens Tryz.underlying9 rfl) rfl ?_ | (refine m_callL 0 (ent_of Tryz.func163 kr rfl) rfl rfl rfl (fun w M' hl => l1Text_ok 3 (by decide) hl hc2 hi) ?_; rintro v H' ⟨i, ch, _, hi, rfl, x, rfl, hx, rfl⟩))) | refine xNt ?_ | (show oC; first | refine c_seq ?_ | refine c_region ?_ | refine c_ret ?_ | refine c_ift rfl aO ?_) | (show AT _ _ _ _; refine x_then_ret ?_))
    all_goals first | omega | exact x_ret1 Tryz.results101 (res_tmp rfl) (fun w' c' => ⟨_, _, rfl, ⟨i, _, _, hi, rfl, x, rfl, by omega, rfl⟩, c'⟩)
  · have h0' : 0 < s.length := by omega
    repeat' (first | (show oL; first | refine sMv rfl rfl ?_ | refine sAs rfl rfl ?_ | (show oA (.binOp _ _ _ _ _); refine st_y (y_eql rfl rfl) rfl ?_) | (show oA (.call _); first | refine st_y (y_lens Tryz.underlying9 rfl) rfl ?_ | (refine m_callL 0 (ent_of Tryz.func100 kr rfl) rfl rfl rfl (fun w M' hl => l1BelowN_ok s.length h0' hl hc2 hi) ?_; rintro v H' ⟨i, ch, _, hi, rfl, k, rfl, hk, rfl⟩) | (refine m_callL 0 (ent_of Tryz.func100 kr rfl) rfl rfl rfl (fun w M' hl => l1BelowN_ok 4 (by decide) hl hc2 hi) ?_; rintro v H' ⟨i, ch, _, hi, rfl, z, rfl, hz, rfl⟩)) | (show oA (.slice _ _ _ _ _); refine st_y (y_slsh (j := k) Tryz.underlying9 rfl rfl rfl om) rfl ?_)) | refine xNt ?_ | (show oC; first | refine c_seq ?_ | refine c_region ?_ | refine c_skip (x_then ?_) | refine c_skip (x_blk ?_) | refine c_block ?_ | refine c_ret ?_ | refine c_iff rfl nN ?_ | refine c_if rfl (fun h => ?_) (fun h => ?_)) | (show AT _ _ _ _; first | refine x_then ?_ | refine x_then_ret ?_ | refine x_blk_ret ?_))
    · skip
      refine c_all (Hp M' w []) kr (fun _ c => Hp.drew c) ?_
      refine h_take 0 rfl kr kr kr (by exact y_move rfl) rfl (fun w c => by exact c.drop) ?_
      refine h_take 1 rfl kr kr kr (by exact y_move rfl) rfl (fun w c => by exact c.drop) ?_
      refine h_take 2 rfl kr kr kr (by exact y_slsh (j := k) Tryz.underlying9 rfl rfl rfl om) rfl (fun w c => by exact c.drop) ?_
      refine h_take 3 rfl kr kr kr (by exact y_move rfl) rfl (fun w c => by exact c.drop) ?_
      refine h_take 4 rfl kr kr kr (by exact y_move rfl) rfl (fun w c => by exact c.drop) ?_
      refine h_take 5 rfl kr kr kr (by exact y_add rfl rfl om) rfl (fun w c => by exact c.drop) ?_
      refine h_take 6 rfl kr kr kr (by exact y_slsl (i := k + 1) Tryz.underlying9 rfl rfl rfl om) rfl (fun w c => by exact c.drop) ?_
      refine h_take 7 rfl kr kr kr (by exact y_cat rfl rfl (by simp <;> omega) (by simp <;> omega)) rfl (fun w c => by exact c.drop) ?_
      refine h_take 8 rfl kr kr kr (by exact y_assign rfl) rfl (fun w c => by exact c.drop) ?_
      refine h_end kr ?_
      repeat' (first | (show oC; refine c_ret ?_) | (show AT _ _ _ _; first | refine x_then ?_ | refine x_then_ret ?_ | refine x_blk_ret ?_))
      exact x_ret1 Tryz.results101 (res_tmp rfl) (fun w' c' => ⟨_, _, rfl, ⟨i, _, _, hi, rfl, s.take k ++ s.drop (k + 1), rfl, by simp <;> omega, rfl⟩, c'⟩)
    · skip
      refine c_all (Hp M' w []) kr (fun _ c => Hp.drew c) ?_
      refine h_take 0 rfl kr kr kr (by exact y_move rfl) rfl (fun w c => by exact c.drop) ?_
      refine h_take 1 rfl kr kr kr (by exact y_move rfl) rfl (fun w c => by exact c.drop) ?_
      refine h_take 2 rfl kr kr kr (by exact y_slsh (j := k) Tryz.underlying9 rfl rfl rfl om) rfl (fun w c => by exact c.drop) ?_
      refine h_take 3 rfl kr kr kr (by exact y_move rfl) rfl (fun w c => by exact c.drop) ?_
      refine h_take 9 rfl kr kr kr (by exact y_move rfl) rfl (fun w c => by exact c.drop) ?_
      refine h_take 10 rfl kr kr kr (by exact y_move rfl) rfl (fun w c => by exact c.drop) ?_
      refine h_take 11 rfl kr kr kr (by exact y_slsl (i := k) Tryz.underlying9 rfl rfl rfl om) rfl (fun w c => by exact c.drop) ?_
      refine h_only 4 rfl kr ?_
      first | (refine m_build1 tabs (us := [bV (u8 x)]) rfl rfl rfl rfl (by decide) rfl (fun g5 hg5 => ?_)) | (refine m_callL 0 (ent_of Tryz.func162 kr rfl) rfl rfl rfl (fun w M' hl => l1Byte_ok hl hc2 hi) ?_; rintro v H' ⟨i, ch, _, hi, rfl, x, rfl, hx3, rfl⟩) | (refine st_y (y_convbs (t := 38) (t' := 9) (e := 5) (l := [u8 x]) kr kr kr rfl (fun w c => fun j u hj => by rw [Addr.add_lit]; exact hc_blk 0 rfl (by rw [Nat.zero_add, List.getElem?_toArray]; exact hj) w c)) rfl ?_)
      refine c_nil (x_one (h_keep (fun w c => by exact c.drop) ?_))
      refine h_take 5 rfl kr kr kr (by exact y_convk (t := 3) (t' := 5) (k := .i64) (k' := .u8) kr kr kr rfl (u8_wrap _)) rfl (fun w c => by exact c.drop) ?_
      refine h_only 6 rfl kr ?_
      first | (refine m_build1 tabs (us := [bV (u8 x)]) rfl rfl rfl rfl (by decide) rfl (fun g5 hg5 => ?_)) | (refine m_callL 0 (ent_of Tryz.func162 kr rfl) rfl rfl rfl (fun w M' hl => l1Byte_ok hl hc2 hi) ?_; rintro v H' ⟨i, ch, _, hi, rfl, x, rfl, hx3, rfl⟩) | (refine st_y (y_convbs (t := 38) (t' := 9) (e := 5) (l := [u8 x]) kr kr kr rfl (fun w c => fun j u hj => by rw [Addr.add_lit]; exact hc_blk 0 rfl (by rw [Nat.zero_add, List.getElem?_toArray]; exact hj) w c)) rfl ?_)
      refine c_nil (x_one (h_keep (fun w c => by exact c.drop.drop) ?_))
      refine h_only 7 rfl kr ?_
      first | (refine m_build1 tabs (us := [bV (u8 x)]) rfl rfl rfl rfl (by decide) rfl (fun g5 hg5 => ?_)) | (refine m_callL 0 (ent_of Tryz.func162 kr rfl) rfl rfl rfl (fun w M' hl => l1Byte_ok hl hc2 hi) ?_; rintro v H' ⟨i, ch, _, hi, rfl, x, rfl, hx3, rfl⟩) | (refine st_y (y_convbs (t := 38) (t' := 9) (e := 5) (l := [u8 x]) kr kr kr rfl (fun w c => fun j u hj => by rw [Addr.add_lit]; exact hc_blk 0 rfl (by rw [Nat.zero_add, List.getElem?_toArray]; exact hj) w c)) rfl ?_)
      refine c_nil (x_one (h_keep (fun w c => by exact c.drop.drop) ?_))
      refine h_take 8 rfl kr kr kr (by exact y_cat rfl rfl (by simp <;> omega) (by simp <;> omega)) rfl (fun w c => by exact c.drop.drop) ?_
      refine h_take 12 rfl kr kr kr (by exact y_cat rfl rfl (by simp <;> omega) (by simp <;> omega)) rfl (fun w c => by exact c.drop.drop) ?_
      refine h_take 13 rfl kr kr kr (by exact y_assign rfl) rfl (fun w c => by exact c.drop.drop) ?_
      refine h_end kr ?_
      repeat' (first | (show oC; refine c_ret ?_) | (show AT _ _ _ _; first | refine x_then ?_ | refine x_then_ret ?_ | refine x_blk_ret ?_))
      exact x_ret1 Tryz.results101 (res_tmp rfl) (fun w' c' => ⟨_, _, rfl, ⟨i, _, _, hi, rfl, s.take k ++ [u8 x] ++ s.drop k, rfl, by simp <;> omega, rfl⟩, c'.sub (.cons _ (List.Sublist.refl _))⟩)
    · exact x_ret1 Tryz.results101 (res_tmp rfl) (fun w' c' => ⟨_, _, rfl, ⟨i, _, _, hi, rfl, s.take k, rfl, by simp <;> omega, rfl⟩, c'⟩)
    · skip
      refine c_all (Hp M' w []) kr (fun _ c => Hp.drew c) ?_
      refine h_take 0 rfl kr kr kr (by exact y_move rfl) rfl (fun w c => by exact c.drop) ?_
      refine h_take 1 rfl kr kr kr (by exact y_move rfl) rfl (fun w c => by exact c.drop) ?_
      refine h_take 2 rfl kr kr kr (by exact y_slsh (j := k) Tryz.underlying9 rfl rfl rfl om) rfl (fun w c => by exact c.drop) ?_
      refine h_take 3 rfl kr kr kr (by exact y_move rfl) rfl (fun w c => by exact c.drop) ?_
      refine h_take 4 rfl kr kr kr (by exact y_move rfl) rfl (fun w c => by exact c.drop) ?_
      refine h_take 5 rfl kr kr kr (by exact y_indexs Tryz.underlying9 rfl rfl om om) rfl (fun w c => by exact c.drop) ?_
      refine h_take 6 rfl kr kr kr (by exact y_convk (t := 5) (t' := 3) (k := .u8) (k' := .i64) kr kr kr rfl (byte_i64 _)) rfl (fun w c => by exact c.drop) ?_
      refine h_take 7 rfl kr kr kr (by exact y_move rfl) rfl (fun w c => by exact c.drop) ?_
      refine h_take 15 rfl kr kr kr (by exact y_move rfl) rfl (fun w c => by exact c.drop) ?_
      refine h_take 16 rfl kr kr kr (by exact y_move rfl) rfl (fun w c => by exact c.drop) ?_
      refine h_take 17 rfl kr kr kr (by exact y_add (q := (1 : Int)) rfl rfl om) rfl (fun w c => by exact c.drop) ?_
      refine h_take 18 rfl kr kr kr (by exact y_slsl (i := k + 1) Tryz.underlying9 rfl rfl rfl om) rfl (fun w c => by exact c.drop) ?_
      refine h_only 8 rfl kr ?_
      first | (refine m_build1 tabs (us := [bV (u8 (xorI ((s.getD ((k : Int)).toNat 0).toNat : Int) (1 + (x : Int))))]) rfl rfl rfl rfl (by decide) rfl (fun g5 hg5 => ?_)) | (refine m_callL 0 (ent_of Tryz.func100 kr rfl) rfl rfl rfl (fun w M' hl => l1BelowN_ok 255 (by decide) hl hc2 hi) ?_; rintro v H' ⟨i, ch, _, hi, rfl, x, rfl, hx3, rfl⟩) | (refine st_y (y_convbs (t := 38) (t' := 9) (e := 5) (l := [u8 (xorI ((s.getD ((k : Int)).toNat 0).toNat : Int) (1 + (x : Int)))]) kr kr kr rfl (fun w c => fun j u hj => by rw [Addr.add_lit]; exact hc_blk 0 rfl (by rw [Nat.zero_add, List.getElem?_toArray]; exact hj) w c)) rfl ?_)
      refine c_nil (x_one (h_keep (fun w c => by exact c.drop) ?_))
      refine h_take 9 rfl kr kr kr (by exact y_add rfl rfl om) rfl (fun w c => by exact c.drop) ?_
      refine h_take 10 rfl kr kr kr (by exact y_xor rfl rfl) rfl (fun w c => by exact c.drop) ?_
      refine h_take 11 rfl kr kr kr (by exact y_convk (t := 3) (t' := 5) (k := .i64) (k' := .u8) kr kr kr rfl (u8_wrap _)) rfl (fun w c => by exact c.drop) ?_
      refine h_only 12 rfl kr ?_
      first | (refine m_build1 tabs (us := [bV (u8 (xorI ((s.getD ((k : Int)).toNat 0).toNat : Int) (1 + (x : Int))))]) rfl rfl rfl rfl (by decide) rfl (fun g5 hg5 => ?_)) | (refine m_callL 0 (ent_of Tryz.func100 kr rfl) rfl rfl rfl (fun w M' hl => l1BelowN_ok 255 (by decide) hl hc2 hi) ?_; rintro v H' ⟨i, ch, _, hi, rfl, x, rfl, hx3, rfl⟩) | (refine st_y (y_convbs (t := 38) (t' := 9) (e := 5) (l := [u8 (xorI ((s.getD ((k : Int)).toNat 0).toNat : Int) (1 + (x : Int)))]) kr kr kr rfl (fun w c => fun j u hj => by rw [Addr.add_lit]; exact hc_blk 0 rfl (by rw [Nat.zero_add, List.getElem?_toArray]; exact hj) w c)) rfl ?_)
      refine c_nil (x_one (h_keep (fun w c => by exact c.drop.drop) ?_))
      refine h_only 13 rfl kr ?_
      first | (refine m_build1 tabs (us := [bV (u8 (xorI ((s.getD ((k : Int)).toNat 0).toNat : Int) (1 + (x : Int))))]) rfl rfl rfl rfl (by decide) rfl (fun g5 hg5 => ?_)) | (refine m_callL 0 (ent_of Tryz.func100 kr rfl) rfl rfl rfl (fun w M' hl => l1BelowN_ok 255 (by decide) hl hc2 hi) ?_; rintro v H' ⟨i, ch, _, hi, rfl, x, rfl, hx3, rfl⟩) | (refine st_y (y_convbs (t := 38) (t' := 9) (e := 5) (l := [u8 (xorI ((s.getD ((k : Int)).toNat 0).toNat : Int) (1 + (x : Int)))]) kr kr kr rfl (fun w c => fun j u hj => by rw [Addr.add_lit]; exact hc_blk 0 rfl (by rw [Nat.zero_add, List.getElem?_toArray]; exact hj) w c)) rfl ?_)
      refine c_nil (x_one (h_keep (fun w c => by exact c.drop.drop) ?_))
      refine h_take 14 rfl kr kr kr (by exact y_cat rfl rfl (by simp <;> omega) (by simp <;> omega)) rfl (fun w c => by exact c.drop.drop) ?_
      refine h_take 19 rfl kr kr kr (by exact y_cat rfl rfl (by simp <;> omega) (by simp <;> omega)) rfl (fun w c => by exact c.drop.drop) ?_
      refine h_take 20 rfl kr kr kr (by exact y_assign rfl) rfl (fun w c => by exact c.drop.drop) ?_
      refine h_end kr ?_
      repeat' (first | (show oC; refine c_ret ?_) | (show AT _ _ _ _; refine x_then ?_))
      exact x_ret1 Tryz.results101 (res_tmp rfl) (fun w' c' => ⟨_, _, rfl, ⟨i, _, _, hi, rfl, s.take k ++ [u8 (xorI ((s.getD ((k : Int)).toNat 0).toNat : Int) (1 + (x : Int)))] ++ s.drop (k + 1), rfl, by simp <;> omega, rfl⟩, c'.sub (.cons _ (List.Sublist.refl _))⟩)
end Go.Proofs.YtdnhmnnccfoliaaGreatDoor

namespace Go.Lg
open Go.RowKit
theorem y_maxk {P : Program} {n : Nat} {C : World → Prop} {s : List (Nat × Value)} {ty : Nat} {x y : Operand} {p q r : Int} {at' : Array Nat} (hx : ev s x = some (.int .i64 p)) (hy : ev s y = some (.int .i64 q)) (h : max p q = r) : Y P n C s (.call ⟨.builtin .max, #[x, y], at'⟩) ty (.int .i64 r) := by
  subst h; exact y_max hx hy
end Go.Lg
namespace Go.Proofs.YtdnhmnnccfoliaaGreatDoor
open Go.Lg Go.Proofs Go.RowKit
attribute [local irreducible] Code.wp wpList bodyPost Exit.then Exit.inBlock Hp Again Calls Y AT ResV QT Qn QI wpAny wpAnyQ
set_option maxRecDepth 20000
set_option maxHeartbeats 4000000

theorem DrawFormatMatrix_ok {w : World} {u : Value} (hc : CodeF w [] u) : Does Tryz.prog 16 [u] w GivesPM := by
  refine fn_enter Tryz.func16 rfl Tryz.ntmps16 rfl ?_
  repeat' (first | (show oL; first | refine sMv rfl rfl ?_ | refine sAs rfl rfl ?_ | (show oA (.call _); (refine m_call (ent_of Tryz.func90 kr rfl) rfl rfl (fun w c => l3One_ok (hp_code c hc)) ?_; rintro v H' ⟨p, m, a, c, rfl, hm, rfl⟩)) | (show oA (.extract _ _); refine st_y (y_ext rfl rfl) rfl ?_) | (show oA (.store _ _ _); refine m_storeb 0 tabs rfl rfl rfl rfl rfl rfl rfl ?_) | (show oA (.alloc _); refine m_alloc tabs rfl rfl (fun b9 hb9 => ?_))) | refine xNt ?_ | (show oC; first | refine c_seq ?_ | refine c_region ?_))
  rename_i b8 hb8
  refine c_all (Hp [] w [.blk b9 #[iV m.1, iV m.2.1, .slice a m.2.2.length c] 41]) kr (fun _ c => Hp.drew c) ?_
  refine h_take 0 rfl kr kr kr (by exact y_move rfl) rfl sS ?_
  refine h_take 1 rfl kr kr kr (by exact y_loadb 0 tabs rfl rfl rfl rfl) rfl sS ?_
  refine h_take 2 rfl kr kr kr (by exact y_assign rfl) rfl sS ?_
  refine h_only 3 rfl kr ?_
  first | (refine m_storeb 2 tabs rfl rfl rfl rfl rfl rfl rfl ?_) | (refine m_storeb 2 tabs rfl rfl rfl rfl rfl rfl rfl ?_)
  refine c_nil (x_one (h_keep sS ?_))
  refine h_end kr ?_
  repeat' (first | (show oC; refine c_ret ?_) | (show AT _ _ _ _; refine x_then ?_))
  exact x_ret2 Tryz.results16 (res_tmp rfl) (res_cellb 2 tabs rfl rfl rfl rfl) (fun w' c' => ⟨_, _, rfl, ⟨p, m, a, c, rfl, hm, rfl⟩, c'.sub (.cons _ (.cons_cons _ (List.nil_sublist _)))⟩)
def mwL : List (List UInt8) := [[], [48, 120, 48, 58], [50, 120, 50, 58, 49, 48, 47, 48, 49], [50, 120, 50, 58, 49, 48, 48, 49], [49, 120, 50, 58, 49, 48, 47], [49, 120, 49, 58, 57], [48, 120, 50, 58], [50, 120, 48, 58], [49, 121, 49, 58, 48], [50, 120, 49, 58, 48]]
theorem mw_len : ∀ x ∈ mwL, x.length ≤ 10 := by decide
theorem DrawParseMatrix_ok {w : World} {u : Value} (hc : CodeF w [] u) : Does Tryz.prog 19 [u] w (fun v H => ∃ (p : Int) (s : List UInt8), v = .tuple #[iV p, sV s] ∧ s.length ≤ 200 ∧ H = []) := by
  refine fn_enter Tryz.func19 rfl Tryz.ntmps19 rfl ?_
  repeat' (first | (show oL; first | refine sMv rfl rfl ?_ | refine sAs rfl rfl ?_ | (show oA (.binOp _ _ _ _ _); refine st_y (y_eql rfl rfl) rfl ?_) | (show oA (.call _); first | (refine m_call (ent_of Tryz.func97 kr rfl) rfl rfl (fun w c => l1New_ok (hp_code c hc)) ?_; rintro v H' ⟨b, ch, rfl, rfl⟩) | (refine m_callL 0 (ent_of Tryz.func98 kr rfl) rfl rfl rfl (fun w M' hl => l2Prime_ok hl hc (Nat.zero_le _)) ?_; rintro v H' ⟨i, ch, _, hi, rfl, p, rfl, hp, rfl⟩) | (refine m_callL 0 (ent_of Tryz.func99 kr rfl) rfl rfl rfl (fun w M' hl => l3Any_ok p hl hc hi) ?_; rintro v H' ⟨i, ch, _, hi, rfl, m, am, cm, rfl, hm, rfl⟩) | (refine m_call (ent_of Tryz.func21 kr rfl) rfl rfl (fun w c => spec_FormatMatrix_ok (m := m) (c.own_rd (i := 1) rfl)) ?_; rintro v H' ⟨rfl, rfl⟩; have hfl := fmtM_len p m) | (refine m_callL 0 (ent_of Tryz.func100 kr rfl) rfl rfl rfl (fun w M' hl => l1BelowN_ok 4 (by decide) hl hc hi) ?_; rintro v H' ⟨i, ch, _, hi, rfl, z, rfl, hz, rfl⟩) | (refine m_callL 0 (ent_of Tryz.func101 kr rfl) rfl rfl rfl (fun w M' hl => l1Spoil_ok (s := fmtM p m) om hl hc hi) ?_; rintro v H' ⟨i, ch, _, hi, rfl, x, rfl, hx, rfl⟩) | (refine m_callL 1 (ent_of Tryz.func102 kr rfl) rfl rfl rfl (fun w M' hl => l1Pick_ok (l := mwL) hl hc hi (hl.own 0 rfl) (by decide)) ?_; rintro v H' ⟨i, ch, _, hi, rfl, x, rfl, hx, rfl⟩; have hxl := mw_len x hx)) | (show oA (.buildSlice _ _ _); refine m_buildc tabs (mwL.map sV) rfl rfl rfl rfl rfl rfl rfl (fun u hu => by obtain ⟨q, _, rfl⟩ := List.mem_map.1 hu; rfl) (fun g hg => ?_))) | refine xNt ?_ | (show oC; first | refine c_seq ?_ | refine c_region ?_ | refine c_skip (x_blk ?_) | refine c_block ?_ | refine c_ret ?_ | refine c_if rfl (fun h => ?_) (fun h => ?_)) | (show AT _ _ _ _; first | refine x_then ?_ | refine x_then_ret ?_ | refine x_blk_ret ?_))
  · exact x_ret2 Tryz.results19 (res_tmp rfl) (res_tmp rfl) (fun w' c' => ⟨_, _, rfl, ⟨p, x, rfl, by omega, rfl⟩, c'.sub (List.nil_sublist _)⟩)
  · exact x_ret2 Tryz.results19 (res_tmp rfl) (res_tmp rfl) (fun w' c' => ⟨_, _, rfl, ⟨p, x, rfl, by omega, rfl⟩, c'.sub (List.nil_sublist _)⟩)
  · exact x_ret2 Tryz.results19 (res_tmp rfl) (res_tmp rfl) (fun w' c' => ⟨_, _, rfl, ⟨p, fmtM p m, rfl, by omega, rfl⟩, c'.sub (List.nil_sublist _)⟩)
abbrev GivesPMM (v : Value) (H : List HE) : Prop := ∃ (p : Int) (m : Mat) (a : Option Addr) (c : Nat) (m' : Mat) (a' : Option Addr) (c' : Nat), v = .tuple #[iV p, .agg #[iV m.1, iV m.2.1, .slice a m.2.2.length c], .agg #[iV m'.1, iV m'.2.1, .slice a' m'.2.2.length c']] ∧ H = [.own (iT m'.2.2) (.slice a' m'.2.2.length c'), .own (iT m.2.2) (.slice a m.2.2.length c)]
theorem l3Two_ok {w : World} {u : Value} (hc : CodeF w [] u) : Does Tryz.prog 113 [u] w GivesPMM := by
  have tok0 : True := trivial
  have tok1 : True := trivial
  refine fn_enter Tryz.func113 rfl Tryz.ntmps113 rfl ?_
  repeat' (first | (show oL; first | refine sMv rfl rfl ?_ | refine sAs rfl rfl ?_ | (show oA (.call _); first | (refine m_call (ent_of Tryz.func97 kr rfl) rfl rfl (fun w c => l1New_ok (hp_code c hc)) ?_; rintro v H' ⟨b, ch, rfl, rfl⟩) | (refine m_callL 0 (ent_of Tryz.func98 kr rfl) rfl rfl rfl (fun w M' hl => l2Prime_ok hl hc (Nat.zero_le _)) ?_; rintro v H' ⟨i, ch, _, hi, rfl, p, rfl, hp, rfl⟩) | (refine m_callL 0 (ent_of Tryz.func99 kr rfl) rfl rfl rfl (fun w M' hl => l3Any_ok p hl hc hi) ?_; rintro v H' ⟨i, ch, _, hi, rfl, m, am, cm, rfl, hm, rfl⟩) | (refine m_callL 1 (ent_of Tryz.func108 kr rfl) rfl rfl rfl (fun w M' hl => l1Once_ok 6 hl hc hi) ?_; rintro v H' ⟨i, ch, _, hi, rfl, (_ | _), rfl, rfl⟩)) | (show oA (.store _ _ _); refine m_storeb 0 tabs rfl rfl rfl rfl rfl rfl rfl ?_) | (show oA (.alloc _); first | (have _t := tok0; refine m_alloc tabs rfl rfl (fun b3 hb3 => ?_); clear _t tok0) | (have _t := tok1; refine m_alloc tabs rfl rfl (fun b4 hb4 => ?_); clear _t tok1) | refine m_alloc tabs rfl rfl (fun b7 hb7 => ?_))) | refine xNt ?_ | (show oC; first | refine c_seq ?_ | refine c_region ?_ | refine c_skip (x_then ?_) | refine c_true rfl ?_ | refine c_false rfl ?_))
  · skip
    obtain ⟨R, hR⟩ : ∃ R : Nat, max 0 (min 4 m.1) = (R : Int) := ⟨_, (Int.toNat_of_nonneg om).symm⟩
    have hR4 : R ≤ 4 := by omega
    obtain ⟨C, hC⟩ : ∃ R : Nat, max 0 (min 4 m.2.1) = (R : Int) := ⟨_, (Int.toNat_of_nonneg om).symm⟩
    have hC4 : C ≤ 4 := by omega
    refine c_all (Hp [] w [.blk b7 #[iV m.1, iV m.2.1, .slice am m.2.2.length cm] 41]) kr (fun _ c => Hp.drew c) ?_
    refine h_take 0 rfl kr kr kr (by exact y_move rfl) rfl sS ?_
    refine h_take 1 rfl kr kr kr (by exact y_loadb 0 tabs rfl rfl rfl rfl) rfl sS ?_
    refine h_take 2 rfl kr kr kr (by exact y_move rfl) rfl sS ?_
    refine h_take 3 rfl kr kr kr (by exact y_move rfl) rfl sS ?_
    refine h_take 4 rfl kr kr kr (by exact y_field tabs rfl rfl rfl) rfl sS ?_
    refine h_take 5 rfl kr kr kr (by exact y_load tabs rfl rfl (hc_blk 0 rfl rfl)) rfl sS ?_
    refine h_take 6 rfl kr kr kr (by exact y_min rfl rfl) rfl sS ?_
    refine h_take 7 rfl kr kr kr (by exact y_maxk rfl rfl hR) rfl sS ?_
    refine h_take 8 rfl kr kr kr (by exact y_field tabs rfl rfl rfl) rfl sS ?_
    refine h_take 9 rfl kr kr kr (by exact y_load tabs rfl rfl (hc_blk 0 rfl rfl)) rfl sS ?_
    refine h_take 10 rfl kr kr kr (by exact y_min rfl rfl) rfl sS ?_
    refine h_take 11 rfl kr kr kr (by exact y_maxk rfl rfl hC) rfl sS ?_
    refine h_only 12 rfl kr ?_
    first | (refine m_callL 0 (ent_of Tryz.func109 kr rfl) rfl rfl rfl (fun w M' hl => l3Random_ok p (R := R) (C := C) hl hc hi om om) ?_; rintro v H' ⟨i, ch, _, hi, rfl, xs, a9, c9, rfl, hx, rfl⟩) | (refine m_storeb 5 tabs rfl rfl rfl rfl rfl rfl rfl ?_) | (refine m_storeb 4 tabs rfl rfl rfl rfl rfl rfl rfl ?_) | (refine m_storeb 4 tabs rfl rfl rfl rfl rfl rfl rfl ?_)
    refine c_nil (x_one (h_keep sS ?_))
    refine h_take 13 rfl kr kr kr (by exact y_assign rfl) rfl sS ?_
    refine h_only 14 rfl kr ?_
    first | (refine m_callL 0 (ent_of Tryz.func109 kr rfl) rfl rfl rfl (fun w M' hl => l3Random_ok p (R := R) (C := C) hl hc hi om om) ?_; rintro v H' ⟨i, ch, _, hi, rfl, xs, a9, c9, rfl, hx, rfl⟩) | (refine m_storeb 5 tabs rfl rfl rfl rfl rfl rfl rfl ?_) | (refine m_storeb 4 tabs rfl rfl rfl rfl rfl rfl rfl ?_) | (refine m_storeb 4 tabs rfl rfl rfl rfl rfl rfl rfl ?_)
    refine c_nil (x_one (h_keep sS ?_))
    refine h_only 15 rfl kr ?_
    first | (refine m_callL 0 (ent_of Tryz.func109 kr rfl) rfl rfl rfl (fun w M' hl => l3Random_ok p (R := R) (C := C) hl hc hi om om) ?_; rintro v H' ⟨i, ch, _, hi, rfl, xs, a9, c9, rfl, hx, rfl⟩) | (refine m_storeb 5 tabs rfl rfl rfl rfl rfl rfl rfl ?_) | (refine m_storeb 4 tabs rfl rfl rfl rfl rfl rfl rfl ?_) | (refine m_storeb 4 tabs rfl rfl rfl rfl rfl rfl rfl ?_)
    refine c_nil (x_one (h_keep sS ?_))
    refine h_end kr ?_
    repeat' (first | (show oC; refine c_ret ?_) | (show AT _ _ _ _; refine x_then ?_))
    exact x_ret3 Tryz.results113 (res_tmp rfl) (res_cellb 5 tabs rfl rfl rfl rfl) (res_cellb 4 tabs rfl rfl rfl rfl) (fun w' c' => ⟨_, _, rfl, ⟨p, m, am, cm, ((R : Int), (C : Int), xs), a9, c9, rfl, rfl⟩, c'.sub (.cons _ (.cons_cons _ (.cons _ (.cons_cons _ (List.nil_sublist _)))))⟩)
  · skip
    refine c_all (Hp [] w [.blk b7 #[iV m.1, iV m.2.1, .slice am m.2.2.length cm] 41]) kr (fun _ c => Hp.drew c) ?_
    refine h_take 0 rfl kr kr kr (by exact y_move rfl) rfl sS ?_
    refine h_take 1 rfl kr kr kr (by exact y_loadb 0 tabs rfl rfl rfl rfl) rfl sS ?_
    refine h_take 2 rfl kr kr kr (by exact y_move rfl) rfl sS ?_
    refine h_take 3 rfl kr kr kr (by exact y_move rfl) rfl sS ?_
    refine h_only 4 rfl kr ?_
    first | (refine m_callL 0 (ent_of Tryz.func99 kr rfl) rfl rfl rfl (fun w M' hl => l3Any_ok p hl hc hi) ?_; rintro v H' ⟨i, ch, _, hi, rfl, k, ak, ck, rfl, hk, rfl⟩) | (refine m_storeb 5 tabs rfl rfl rfl rfl rfl rfl rfl ?_) | (refine m_storeb 4 tabs rfl rfl rfl rfl rfl rfl rfl ?_) | (refine m_storeb 4 tabs rfl rfl rfl rfl rfl rfl rfl ?_)
    refine c_nil (x_one (h_keep sS ?_))
    refine h_take 5 rfl kr kr kr (by exact y_assign rfl) rfl sS ?_
    refine h_only 6 rfl kr ?_
    first | (refine m_callL 0 (ent_of Tryz.func99 kr rfl) rfl rfl rfl (fun w M' hl => l3Any_ok p hl hc hi) ?_; rintro v H' ⟨i, ch, _, hi, rfl, k, ak, ck, rfl, hk, rfl⟩) | (refine m_storeb 5 tabs rfl rfl rfl rfl rfl rfl rfl ?_) | (refine m_storeb 4 tabs rfl rfl rfl rfl rfl rfl rfl ?_) | (refine m_storeb 4 tabs rfl rfl rfl rfl rfl rfl rfl ?_)
    refine c_nil (x_one (h_keep sS ?_))
    refine h_only 7 rfl kr ?_
    first | (refine m_callL 0 (ent_of Tryz.func99 kr rfl) rfl rfl rfl (fun w M' hl => l3Any_ok p hl hc hi) ?_; rintro v H' ⟨i, ch, _, hi, rfl, k, ak, ck, rfl, hk, rfl⟩) | (refine m_storeb 5 tabs rfl rfl rfl rfl rfl rfl rfl ?_) | (refine m_storeb 4 tabs rfl rfl rfl rfl rfl rfl rfl ?_) | (refine m_storeb 4 tabs rfl rfl rfl rfl rfl rfl rfl ?_)
    refine c_nil (x_one (h_keep sS ?_))
    refine h_end kr ?_
    repeat' (first | (show oC; refine c_ret ?_) | (show AT _ _ _ _; first | refine x_then ?_ | refine x_then_ret ?_))
    exact x_ret3 Tryz.results113 (res_tmp rfl) (res_cellb 5 tabs rfl rfl rfl rfl) (res_cellb 4 tabs rfl rfl rfl rfl) (fun w' c' => ⟨_, _, rfl, ⟨p, m, am, cm, k, ak, ck, rfl, rfl⟩, c'.sub (.cons _ (.cons_cons _ (.cons _ (.cons_cons _ (List.nil_sublist _)))))⟩)
theorem DrawMultiplyMatrices_ok {w : World} {u : Value} (hc : CodeF w [] u) : Does Tryz.prog 25 [u] w GivesPMM := by
  have tok0 : True := trivial
  have tok1 : True := trivial
  refine fn_enter Tryz.func25 rfl Tryz.ntmps25 rfl ?_
  repeat' (first | (show oL; first | refine sMv rfl rfl ?_ | refine sAs rfl rfl ?_ | (show oA (.call _); first | (refine m_call (ent_of Tryz.func97 kr rfl) rfl rfl (fun w c => l1New_ok (hp_code c hc)) ?_; rintro v H' ⟨b, ch, rfl, rfl⟩) | (refine m_callL 0 (ent_of Tryz.func98 kr rfl) rfl rfl rfl (fun w M' hl => l2Prime_ok hl hc (Nat.zero_le _)) ?_; rintro v H' ⟨i, ch, _, hi, rfl, p, rfl, hp, rfl⟩) | (refine m_callL 0 (ent_of Tryz.func99 kr rfl) rfl rfl rfl (fun w M' hl => l3Any_ok p hl hc hi) ?_; rintro v H' ⟨i, ch, _, hi, rfl, m, am, cm, rfl, hm, rfl⟩) | (refine m_callL 1 (ent_of Tryz.func108 kr rfl) rfl rfl rfl (fun w M' hl => l1Once_ok 6 hl hc hi) ?_; rintro v H' ⟨i, ch, _, hi, rfl, (_ | _), rfl, rfl⟩)) | (show oA (.store _ _ _); refine m_storeb 0 tabs rfl rfl rfl rfl rfl rfl rfl ?_) | (show oA (.alloc _); first | (have _t := tok0; refine m_alloc tabs rfl rfl (fun b3 hb3 => ?_); clear _t tok0) | (have _t := tok1; refine m_alloc tabs rfl rfl (fun b4 hb4 => ?_); clear _t tok1) | refine m_alloc tabs rfl rfl (fun b7 hb7 => ?_))) | refine xNt ?_ | (show oC; first | refine c_seq ?_ | refine c_region ?_ | refine c_skip (x_then ?_) | refine c_true rfl ?_ | refine c_false rfl ?_))
  · skip
    obtain ⟨R, hR⟩ : ∃ R : Nat, max 0 (min 4 m.2.1) = (R : Int) := ⟨_, (Int.toNat_of_nonneg om).symm⟩
    have hR4 : R ≤ 4 := by omega
    refine c_all (Hp [] w [.blk b7 #[iV m.1, iV m.2.1, .slice am m.2.2.length cm] 41]) kr (fun _ c => Hp.drew c) ?_
    refine h_take 0 rfl kr kr kr (by exact y_move rfl) rfl sS ?_
    refine h_take 1 rfl kr kr kr (by exact y_loadb 0 tabs rfl rfl rfl rfl) rfl sS ?_
    refine h_take 2 rfl kr kr kr (by exact y_move rfl) rfl sS ?_
    refine h_take 3 rfl kr kr kr (by exact y_move rfl) rfl sS ?_
    refine h_take 4 rfl kr kr kr (by exact y_field tabs rfl rfl rfl) rfl sS ?_
    refine h_take 5 rfl kr kr kr (by exact y_load tabs rfl rfl (hc_blk 0 rfl rfl)) rfl sS ?_
    refine h_take 6 rfl kr kr kr (by exact y_min rfl rfl) rfl sS ?_
    refine h_take 7 rfl kr kr kr (by exact y_maxk rfl rfl hR) rfl sS ?_
    refine h_take 8 rfl kr kr kr (by exact y_move rfl) rfl sS ?_
    refine h_only 9 rfl kr ?_
    first | (refine m_callL 0 (ent_of Tryz.func100 kr rfl) rfl rfl rfl (fun w M' hl => l1BelowN_ok 4 (by decide) hl hc hi) ?_; rintro v H' ⟨i, ch, _, hi, rfl, C, rfl, hC, rfl⟩) | (refine m_callL 0 (ent_of Tryz.func109 kr rfl) rfl rfl rfl (fun w M' hl => l3Random_ok p (R := R) (C := C) hl hc hi om om) ?_; rintro v H' ⟨i, ch, _, hi, rfl, xs, a9, c9, rfl, hx, rfl⟩) | (refine m_storeb 5 tabs rfl rfl rfl rfl rfl rfl rfl ?_) | (refine m_storeb 4 tabs rfl rfl rfl rfl rfl rfl rfl ?_) | (refine m_storeb 4 tabs rfl rfl rfl rfl rfl rfl rfl ?_)
    refine c_nil (x_one (h_keep sS ?_))
    refine h_only 10 rfl kr ?_
    first | (refine m_callL 0 (ent_of Tryz.func100 kr rfl) rfl rfl rfl (fun w M' hl => l1BelowN_ok 4 (by decide) hl hc hi) ?_; rintro v H' ⟨i, ch, _, hi, rfl, C, rfl, hC, rfl⟩) | (refine m_callL 0 (ent_of Tryz.func109 kr rfl) rfl rfl rfl (fun w M' hl => l3Random_ok p (R := R) (C := C) hl hc hi om om) ?_; rintro v H' ⟨i, ch, _, hi, rfl, xs, a9, c9, rfl, hx, rfl⟩) | (refine m_storeb 5 tabs rfl rfl rfl rfl rfl rfl rfl ?_) | (refine m_storeb 4 tabs rfl rfl rfl rfl rfl rfl rfl ?_) | (refine m_storeb 4 tabs rfl rfl rfl rfl rfl rfl rfl ?_)
    refine c_nil (x_one (h_keep sS ?_))
    refine h_take 11 rfl kr kr kr (by exact y_assign rfl) rfl sS ?_
    refine h_only 12 rfl kr ?_
    first | (refine m_callL 0 (ent_of Tryz.func100 kr rfl) rfl rfl rfl (fun w M' hl => l1BelowN_ok 4 (by decide) hl hc hi) ?_; rintro v H' ⟨i, ch, _, hi, rfl, C, rfl, hC, rfl⟩) | (refine m_callL 0 (ent_of Tryz.func109 kr rfl) rfl rfl rfl (fun w M' hl => l3Random_ok p (R := R) (C := C) hl hc hi om om) ?_; rintro v H' ⟨i, ch, _, hi, rfl, xs, a9, c9, rfl, hx, rfl⟩) | (refine m_storeb 5 tabs rfl rfl rfl rfl rfl rfl rfl ?_) | (refine m_storeb 4 tabs rfl rfl rfl rfl rfl rfl rfl ?_) | (refine m_storeb 4 tabs rfl rfl rfl rfl rfl rfl rfl ?_)
    refine c_nil (x_one (h_keep sS ?_))
    refine h_only 13 rfl kr ?_
    first | (refine m_callL 0 (ent_of Tryz.func100 kr rfl) rfl rfl rfl (fun w M' hl => l1BelowN_ok 4 (by decide) hl hc hi) ?_; rintro v H' ⟨i, ch, _, hi, rfl, C, rfl, hC, rfl⟩) | (refine m_callL 0 (ent_of Tryz.func109 kr rfl) rfl rfl rfl (fun w M' hl => l3Random_ok p (R := R) (C := C) hl hc hi om om) ?_; rintro v H' ⟨i, ch, _, hi, rfl, xs, a9, c9, rfl, hx, rfl⟩) | (refine m_storeb 5 tabs rfl rfl rfl rfl rfl rfl rfl ?_) | (refine m_storeb 4 tabs rfl rfl rfl rfl rfl rfl rfl ?_) | (refine m_storeb 4 tabs rfl rfl rfl rfl rfl rfl rfl ?_)
    refine c_nil (x_one (h_keep sS ?_))
    refine h_end kr ?_
    repeat' (first | (show oC; refine c_ret ?_) | (show AT _ _ _ _; refine x_then ?_))
    exact x_ret3 Tryz.results25 (res_tmp rfl) (res_cellb 5 tabs rfl rfl rfl rfl) (res_cellb 4 tabs rfl rfl rfl rfl) (fun w' c' => ⟨_, _, rfl, ⟨p, m, am, cm, ((R : Int), (C : Int), xs), a9, c9, rfl, rfl⟩, c'.sub (.cons _ (.cons_cons _ (.cons _ (.cons_cons _ (List.nil_sublist _)))))⟩)
  · skip
    refine c_all (Hp [] w [.blk b7 #[iV m.1, iV m.2.1, .slice am m.2.2.length cm] 41]) kr (fun _ c => Hp.drew c) ?_
    refine h_take 0 rfl kr kr kr (by exact y_move rfl) rfl sS ?_
    refine h_take 1 rfl kr kr kr (by exact y_loadb 0 tabs rfl rfl rfl rfl) rfl sS ?_
    refine h_take 2 rfl kr kr kr (by exact y_move rfl) rfl sS ?_
    refine h_take 3 rfl kr kr kr (by exact y_move rfl) rfl sS ?_
    refine h_only 4 rfl kr ?_
    first | (refine m_callL 0 (ent_of Tryz.func99 kr rfl) rfl rfl rfl (fun w M' hl => l3Any_ok p hl hc hi) ?_; rintro v H' ⟨i, ch, _, hi, rfl, k, ak, ck, rfl, hk, rfl⟩) | (refine m_storeb 5 tabs rfl rfl rfl rfl rfl rfl rfl ?_) | (refine m_storeb 4 tabs rfl rfl rfl rfl rfl rfl rfl ?_) | (refine m_storeb 4 tabs rfl rfl rfl rfl rfl rfl rfl ?_)
    refine c_nil (x_one (h_keep sS ?_))
    refine h_take 5 rfl kr kr kr (by exact y_assign rfl) rfl sS ?_
    refine h_only 6 rfl kr ?_
    first | (refine m_callL 0 (ent_of Tryz.func99 kr rfl) rfl rfl rfl (fun w M' hl => l3Any_ok p hl hc hi) ?_; rintro v H' ⟨i, ch, _, hi, rfl, k, ak, ck, rfl, hk, rfl⟩) | (refine m_storeb 5 tabs rfl rfl rfl rfl rfl rfl rfl ?_) | (refine m_storeb 4 tabs rfl rfl rfl rfl rfl rfl rfl ?_) | (refine m_storeb 4 tabs rfl rfl rfl rfl rfl rfl rfl ?_)
    refine c_nil (x_one (h_keep sS ?_))
    refine h_only 7 rfl kr ?_
    first | (refine m_callL 0 (ent_of Tryz.func99 kr rfl) rfl rfl rfl (fun w M' hl => l3Any_ok p hl hc hi) ?_; rintro v H' ⟨i, ch, _, hi, rfl, k, ak, ck, rfl, hk, rfl⟩) | (refine m_storeb 5 tabs rfl rfl rfl rfl rfl rfl rfl ?_) | (refine m_storeb 4 tabs rfl rfl rfl rfl rfl rfl rfl ?_) | (refine m_storeb 4 tabs rfl rfl rfl rfl rfl rfl rfl ?_)
    refine c_nil (x_one (h_keep sS ?_))
    refine h_end kr ?_
    repeat' (first | (show oC; refine c_ret ?_) | (show AT _ _ _ _; first | refine x_then ?_ | refine x_then_ret ?_))
    exact x_ret3 Tryz.results25 (res_tmp rfl) (res_cellb 5 tabs rfl rfl rfl rfl) (res_cellb 4 tabs rfl rfl rfl rfl) (fun w' c' => ⟨_, _, rfl, ⟨p, m, am, cm, k, ak, ck, rfl, rfl⟩, c'.sub (.cons _ (.cons_cons _ (.cons _ (.cons_cons _ (List.nil_sublist _)))))⟩)
theorem DrawAddMatrices_ok {w : World} {u : Value} (hc : CodeF w [] u) : Does Tryz.prog 29 [u] w GivesPMM := by
  have tok0 : True := trivial
  have tok1 : True := trivial
  have tok2 : True := trivial
  refine fn_enter Tryz.func29 rfl Tryz.ntmps29 rfl ?_
  repeat' (first | (show oL; first | refine sMv rfl rfl ?_ | refine sAs rfl rfl ?_ | (show oA (.call _); (refine m_call (ent_of Tryz.func113 kr rfl) rfl rfl (fun w c => l3Two_ok (hp_code c hc)) ?_; rintro v H' ⟨p, m, am, cm, k, ak, ck, rfl, rfl⟩)) | (show oA (.extract _ _); refine st_y (y_ext rfl rfl) rfl ?_) | (show oA (.store _ _ _); first | refine m_storeb 0 tabs rfl rfl rfl rfl rfl rfl rfl ?_ | refine m_storeb 1 tabs rfl rfl rfl rfl rfl rfl rfl ?_) | (show oA (.alloc _); first | (have _t := tok0; refine m_alloc tabs rfl rfl (fun b3 hb3 => ?_); clear _t tok0) | (have _t := tok1; refine m_alloc tabs rfl rfl (fun b4 hb4 => ?_); clear _t tok1) | (have _t := tok2; refine m_alloc tabs rfl rfl (fun b6 hb6 => ?_); clear _t tok2) | refine m_alloc tabs rfl rfl (fun b7 hb7 => ?_))) | refine xNt ?_ | (show oC; first | refine c_seq ?_ | refine c_region ?_))
  refine c_all (Hp [] w [.blk b7 #[iV k.1, iV k.2.1, .slice ak k.2.2.length ck] 41, .blk b6 #[iV m.1, iV m.2.1, .slice am m.2.2.length cm] 41]) kr (fun _ c => Hp.drew c) ?_
  refine h_take 0 rfl kr kr kr (by exact y_move rfl) rfl sS ?_
  refine h_take 1 rfl kr kr kr (by exact y_loadb 1 tabs rfl rfl rfl rfl) rfl sS ?_
  refine h_take 2 rfl kr kr kr (by exact y_loadb 0 tabs rfl rfl rfl rfl) rfl sS ?_
  refine h_take 3 rfl kr kr kr (by exact y_assign rfl) rfl sS ?_
  refine h_only 4 rfl kr ?_
  first | (refine m_storeb 5 tabs rfl rfl rfl rfl rfl rfl rfl ?_) | (refine m_storeb 4 tabs rfl rfl rfl rfl rfl rfl rfl ?_) | (refine m_storeb 4 tabs rfl rfl rfl rfl rfl rfl rfl ?_)
  refine c_nil (x_one (h_keep sS ?_))
  refine h_only 5 rfl kr ?_
  first | (refine m_storeb 5 tabs rfl rfl rfl rfl rfl rfl rfl ?_) | (refine m_storeb 4 tabs rfl rfl rfl rfl rfl rfl rfl ?_) | (refine m_storeb 4 tabs rfl rfl rfl rfl rfl rfl rfl ?_)
  refine c_nil (x_one (h_keep sS ?_))
  refine h_end kr ?_
  repeat' (first | (show oC; refine c_ret ?_) | (show AT _ _ _ _; refine x_then ?_))
  exact x_ret3 Tryz.results29 (res_tmp rfl) (res_cellb 5 tabs rfl rfl rfl rfl) (res_cellb 4 tabs rfl rfl rfl rfl) (fun w' c' => ⟨_, _, rfl, ⟨p, m, am, cm, k, ak, ck, rfl, rfl⟩, c'.sub (.cons _ (.cons _ (.cons_cons _ (.cons_cons _ (List.nil_sublist _)))))⟩)
theorem DrawApplyMatrix_ok {w : World} {u : Value} (hc : CodeF w [] u) : Does Tryz.prog 34 [u] w (fun v H => ∃ (p : Int) (m : Mat) (a : Option Addr) (c : Nat) (xs : List Int) (a' : Option Addr) (c' : Nat), v = .tuple #[iV p, .agg #[iV m.1, iV m.2.1, .slice a m.2.2.length c], .slice a' xs.length c'] ∧ H = [.own (iT xs) (.slice a' xs.length c'), .own (iT m.2.2) (.slice a m.2.2.length c)]) := by
  have tok0 : True := trivial
  refine fn_enter Tryz.func34 rfl Tryz.ntmps34 rfl ?_
  repeat' (first | (show oL; first | refine sMv rfl rfl ?_ | refine sAs rfl rfl ?_ | (show oA (.call _); first | (refine m_call (ent_of Tryz.func97 kr rfl) rfl rfl (fun w c => l1New_ok (hp_code c hc)) ?_; rintro v H' ⟨b, ch, rfl, rfl⟩) | (refine m_callL 0 (ent_of Tryz.func98 kr rfl) rfl rfl rfl (fun w M' hl => l2Prime_ok hl hc (Nat.zero_le _)) ?_; rintro v H' ⟨i, ch, _, hi, rfl, p, rfl, hp, rfl⟩) | (refine m_callL 0 (ent_of Tryz.func99 kr rfl) rfl rfl rfl (fun w M' hl => l3Any_ok p hl hc hi) ?_; rintro v H' ⟨i, ch, _, hi, rfl, m, am, cm, rfl, hm, rfl⟩)) | (show oA (.store _ _ _); refine m_storeb 0 tabs rfl rfl rfl rfl rfl rfl rfl ?_) | (show oA (.alloc _); first | (have _t := tok0; refine m_alloc tabs rfl rfl (fun b3 hb3 => ?_); clear _t tok0) | refine m_alloc tabs rfl rfl (fun b7 hb7 => ?_))) | refine xNt ?_ | (show oC; first | refine c_seq ?_ | refine c_region ?_))
  have q1 := hm.2.1
  have q2 := hm.2.2
  refine c_all (Hp [] w [.blk b7 #[iV m.1, iV m.2.1, .slice am m.2.2.length cm] 41]) kr (fun _ c => Hp.drew c) ?_
  refine h_take 0 rfl kr kr kr (by exact y_move rfl) rfl sS ?_
  refine h_take 1 rfl kr kr kr (by exact y_loadb 0 tabs rfl rfl rfl rfl) rfl sS ?_
  refine h_take 2 rfl kr kr kr (by exact y_move rfl) rfl sS ?_
  refine h_take 3 rfl kr kr kr (by exact y_move rfl) rfl sS ?_
  refine h_take 4 rfl kr kr kr (by exact y_field tabs rfl rfl rfl) rfl sS ?_
  refine h_take 5 rfl kr kr kr (by exact y_load tabs rfl rfl (hc_blk 0 rfl rfl)) rfl sS ?_
  refine h_take 6 rfl kr kr kr (by exact y_move rfl) rfl sS ?_
  refine h_take 8 rfl kr kr kr (by exact y_move rfl) rfl sS ?_
  refine h_only 7 rfl kr ?_
  first | (refine m_callL 1 (ent_of Tryz.func100 kr rfl) rfl rfl rfl (fun w M' hl => l1BelowN_ok 2 (by decide) hl hc hi) ?_; rintro v H' ⟨i, ch, _, hi, rfl, x1, rfl, hx1, rfl⟩) | (refine m_callL 0 (ent_of Tryz.func100 kr rfl) rfl rfl rfl (fun w M' hl => l1BelowN_ok 2 (by decide) hl hc hi) ?_; rintro v H' ⟨i, ch, _, hi, rfl, x2, rfl, hx2, rfl⟩) | (refine m_callL 0 (ent_of Tryz.func119 kr rfl) rfl rfl rfl (fun w M' hl => l2Vector_ok p _ hl hc hi om) ?_; rintro v H' ⟨i, ch, _, hi, rfl, xs, a9, c9, rfl, hx, rfl⟩) | (refine m_storeb 4 tabs rfl rfl rfl rfl rfl rfl rfl ?_) | (refine m_storeb 4 tabs rfl rfl rfl rfl rfl rfl rfl ?_)
  refine c_nil (x_one (h_keep sS ?_))
  refine h_only 9 rfl kr ?_
  first | (refine m_callL 1 (ent_of Tryz.func100 kr rfl) rfl rfl rfl (fun w M' hl => l1BelowN_ok 2 (by decide) hl hc hi) ?_; rintro v H' ⟨i, ch, _, hi, rfl, x1, rfl, hx1, rfl⟩) | (refine m_callL 0 (ent_of Tryz.func100 kr rfl) rfl rfl rfl (fun w M' hl => l1BelowN_ok 2 (by decide) hl hc hi) ?_; rintro v H' ⟨i, ch, _, hi, rfl, x2, rfl, hx2, rfl⟩) | (refine m_callL 0 (ent_of Tryz.func119 kr rfl) rfl rfl rfl (fun w M' hl => l2Vector_ok p _ hl hc hi om) ?_; rintro v H' ⟨i, ch, _, hi, rfl, xs, a9, c9, rfl, hx, rfl⟩) | (refine m_storeb 4 tabs rfl rfl rfl rfl rfl rfl rfl ?_) | (refine m_storeb 4 tabs rfl rfl rfl rfl rfl rfl rfl ?_)
  refine c_nil (x_one (h_keep sS ?_))
  refine h_take 10 rfl kr kr kr (by exact y_mul rfl rfl (by have := Nat.mul_le_mul (show x1 ≤ 1 by omega) (show x2 ≤ 1 by omega); omega)) rfl sS ?_
  refine h_take 11 rfl kr kr kr (by exact y_add rfl rfl (by have := Nat.mul_le_mul (show x1 ≤ 1 by omega) (show x2 ≤ 1 by omega); omega)) rfl sS ?_
  refine h_take 12 rfl kr kr kr (by exact y_min rfl rfl) rfl sS ?_
  refine h_take 13 rfl kr kr kr (by exact y_max rfl rfl) rfl sS ?_
  refine h_only 14 rfl kr ?_
  first | (refine m_callL 1 (ent_of Tryz.func100 kr rfl) rfl rfl rfl (fun w M' hl => l1BelowN_ok 2 (by decide) hl hc hi) ?_; rintro v H' ⟨i, ch, _, hi, rfl, x1, rfl, hx1, rfl⟩) | (refine m_callL 0 (ent_of Tryz.func100 kr rfl) rfl rfl rfl (fun w M' hl => l1BelowN_ok 2 (by decide) hl hc hi) ?_; rintro v H' ⟨i, ch, _, hi, rfl, x2, rfl, hx2, rfl⟩) | (refine m_callL 0 (ent_of Tryz.func119 kr rfl) rfl rfl rfl (fun w M' hl => l2Vector_ok p _ hl hc hi om) ?_; rintro v H' ⟨i, ch, _, hi, rfl, xs, a9, c9, rfl, hx, rfl⟩) | (refine m_storeb 4 tabs rfl rfl rfl rfl rfl rfl rfl ?_) | (refine m_storeb 4 tabs rfl rfl rfl rfl rfl rfl rfl ?_)
  refine c_nil (x_one (h_keep sS ?_))
  refine h_take 15 rfl kr kr kr (by exact y_assign rfl) rfl sS ?_
  refine h_only 16 rfl kr ?_
  first | (refine m_callL 1 (ent_of Tryz.func100 kr rfl) rfl rfl rfl (fun w M' hl => l1BelowN_ok 2 (by decide) hl hc hi) ?_; rintro v H' ⟨i, ch, _, hi, rfl, x1, rfl, hx1, rfl⟩) | (refine m_callL 0 (ent_of Tryz.func100 kr rfl) rfl rfl rfl (fun w M' hl => l1BelowN_ok 2 (by decide) hl hc hi) ?_; rintro v H' ⟨i, ch, _, hi, rfl, x2, rfl, hx2, rfl⟩) | (refine m_callL 0 (ent_of Tryz.func119 kr rfl) rfl rfl rfl (fun w M' hl => l2Vector_ok p _ hl hc hi om) ?_; rintro v H' ⟨i, ch, _, hi, rfl, xs, a9, c9, rfl, hx, rfl⟩) | (refine m_storeb 4 tabs rfl rfl rfl rfl rfl rfl rfl ?_) | (refine m_storeb 4 tabs rfl rfl rfl rfl rfl rfl rfl ?_)
  refine c_nil (x_one (h_keep sS ?_))
  refine h_take 17 rfl kr kr kr (by exact y_assign rfl) rfl sS ?_
  refine h_end kr ?_
  repeat' (first | (show oC; refine c_ret ?_) | (show AT _ _ _ _; refine x_then ?_))
  exact x_ret3 Tryz.results34 (res_tmp rfl) (res_cellb 4 tabs rfl rfl rfl rfl) (res_tmp rfl) (fun w' c' => ⟨_, _, rfl, ⟨p, m, am, cm, xs, a9, c9, rfl, rfl⟩, c'.sub (.cons _ (.cons_cons _ (.cons _ (.cons_cons _ (List.nil_sublist _)))))⟩)
theorem l2Number_ok {w1 : World} {M1 : List Nat} {H1 : List HE} {w : World} {M' : List Nat} {u : Value} {b i : Nat} {h : Int} (hl : Lent M1 w1 (cu u b i h) H1 M' w) (hc : CodeF w1 M1 u) (hi : i ≤ vlen u) :
    DoesB Tryz.prog 121 [cuV b] w M' (Gcu u b (fun v H => ∃ x : Int, v = iV x ∧ (-9223372036854775808 ≤ x ∧ x ≤ 9223372036854775807) ∧ H = [])) := by
  have hc2 := lent_code hl hc
  have hb : ∀ x ∈ [0, 1, 2, 3, 4, 7, -1, -8, 9223372036854775807, -9223372036854775808], (-9223372036854775808 : Int) ≤ x ∧ x ≤ 9223372036854775807 := by decide
  refine fnb_lent Tryz.func121 rfl Tryz.ntmps121 rfl hl ?_
  repeat' (first | (show oL; first | refine sMv rfl rfl ?_ | refine sAs rfl rfl ?_ | (show oA (.call _); (refine m_callL 1 (ent_of Tryz.func161 kr rfl) rfl rfl rfl (fun w M' hl => l1PickInt_ok hl hc2 hi (hl.own 0 rfl) (by decide)) ?_; rintro v H' ⟨i, ch, _, hi, rfl, x, rfl, hx, rfl⟩)) | (show oA (.buildSlice _ _ _); refine m_buildi tabs [0, 1, 2, 3, 4, 7, -1, -8, 9223372036854775807, -9223372036854775808] rfl rfl rfl rfl rfl rfl rfl (fun g hg => ?_))) | refine xNt ?_ | (show oC; first | refine c_seq ?_ | refine c_region ?_ | refine c_ret ?_))
  exact x_ret1 Tryz.results121 (res_tmp rfl) (fun w' c' => ⟨_, _, rfl, ⟨i, _, _, hi, rfl, x, rfl, hb x hx, rfl⟩, c'.sub (.cons_cons _ (List.nil_sublist _))⟩)
theorem DrawScaleMatrix_ok {w : World} {u : Value} (hc : CodeF w [] u) : Does Tryz.prog 37 [u] w (fun v H => ∃ (p k : Int) (m : Mat) (a : Option Addr) (c : Nat), v = .tuple #[iV p, iV k, .agg #[iV m.1, iV m.2.1, .slice a m.2.2.length c]] ∧ (-9223372036854775808 ≤ k ∧ k ≤ 9223372036854775807) ∧ H = [.own (iT m.2.2) (.slice a m.2.2.length c)]) := by
  refine fn_enter Tryz.func37 rfl Tryz.ntmps37 rfl ?_
  repeat' (first | (show oL; first | refine sMv rfl rfl ?_ | refine sAs rfl rfl ?_ | (show oA (.call _); first | (refine m_call (ent_of Tryz.func97 kr rfl) rfl rfl (fun w c => l1New_ok (hp_code c hc)) ?_; rintro v H' ⟨b, ch, rfl, rfl⟩) | (refine m_callL 0 (ent_of Tryz.func98 kr rfl) rfl rfl rfl (fun w M' hl => l2Prime_ok hl hc (Nat.zero_le _)) ?_; rintro v H' ⟨i, ch, _, hi, rfl, p, rfl, hp, rfl⟩) | (refine m_callL 0 (ent_of Tryz.func121 kr rfl) rfl rfl rfl (fun w M' hl => l2Number_ok hl hc hi) ?_; rintro v H' ⟨i, ch, _, hi, rfl, k, rfl, hk, rfl⟩) | (refine m_callL 0 (ent_of Tryz.func99 kr rfl) rfl rfl rfl (fun w M' hl => l3Any_ok p hl hc hi) ?_; rintro v H' ⟨i, ch, _, hi, rfl, m, am, cm, rfl, hm, rfl⟩)) | (show oA (.store _ _ _); refine m_storeb 2 tabs rfl rfl rfl rfl rfl rfl rfl ?_) | (show oA (.alloc _); refine m_alloc tabs rfl rfl (fun b4 hb4 => ?_))) | refine xNt ?_ | (show oC; first | refine c_seq ?_ | refine c_region ?_ | refine c_ret ?_))
  exact x_ret3 Tryz.results37 (res_tmp rfl) (res_tmp rfl) (res_cellb 2 tabs rfl rfl rfl rfl) (fun w' c' => ⟨_, _, rfl, ⟨p, k, m, am, cm, rfl, hk, rfl⟩, c'.sub (.cons _ (.cons_cons _ (List.nil_sublist _)))⟩)
theorem l3Sizes_ok {w : World} {u : Value} (hc : CodeF w [] u) : Does Tryz.prog 124 [u] w (fun v H => ∃ r c : Int, v = .tuple #[iV r, iV c] ∧ H = []) := by
  refine fn_enter Tryz.func124 rfl Tryz.ntmps124 rfl ?_
  repeat' (first | (show oL; first | refine sMv rfl rfl ?_ | refine sAs rfl rfl ?_ | (show oA (.binOp _ _ _ _ _); refine st_y (y_sub rfl rfl om) rfl ?_) | (show oA (.call _); first | (refine m_call (ent_of Tryz.func97 kr rfl) rfl rfl (fun w c => l1New_ok (hp_code c hc)) ?_; rintro v H' ⟨b, ch, rfl, rfl⟩) | (refine m_callL 0 (ent_of Tryz.func100 kr rfl) rfl rfl rfl (fun w M' hl => l1BelowN_ok 11 (by decide) hl hc (Nat.zero_le _)) ?_; rintro v H' ⟨i, ch, _, hi, rfl, r, rfl, hr, rfl⟩) | (refine m_callL 0 (ent_of Tryz.func100 kr rfl) rfl rfl rfl (fun w M' hl => l1BelowN_ok 10 (by decide) hl hc hi) ?_; rintro v H' ⟨i, ch, _, hi, rfl, k, rfl, hk, rfl⟩))) | refine xNt ?_ | (show oC; first | refine c_seq ?_ | refine c_region ?_ | refine c_ret ?_))
  exact x_ret2 Tryz.results124 (res_tmp rfl) (res_tmp rfl) (fun w' c' => ⟨_, _, rfl, ⟨_, _, rfl, rfl⟩, c'.sub (List.nil_sublist _)⟩)
theorem DrawZeroMatrix_ok {w : World} {u : Value} (hc : CodeF w [] u) : Does Tryz.prog 40 [u] w (fun v H => ∃ r c : Int, v = .tuple #[iV r, iV c] ∧ H = []) := by
  refine fn_enter Tryz.func40 rfl Tryz.ntmps40 rfl ?_
  repeat' (first | (show oL; first | refine sMv rfl rfl ?_ | refine sAs rfl rfl ?_ | (show oA (.call _); (refine m_call (ent_of Tryz.func124 kr rfl) rfl rfl (fun w c => l3Sizes_ok (hp_code c hc)) ?_; rintro v H' ⟨r, k, rfl, rfl⟩)) | (show oA (.extract _ _); refine st_y (y_ext rfl rfl) rfl ?_)) | refine xNt ?_ | (show oC; first | refine c_seq ?_ | refine c_region ?_ | refine c_ret ?_))
  exact x_ret2 Tryz.results40 (res_tmp rfl) (res_tmp rfl) (fun w' c' => ⟨_, _, rfl, ⟨_, _, rfl, rfl⟩, c'.sub (List.nil_sublist _)⟩)
theorem DrawEqualMatrices_ok {w : World} {u : Value} (hc : CodeF w [] u) : Does Tryz.prog 45 [u] w (fun v H => ∃ (m : Mat) (a : Option Addr) (c : Nat) (m' : Mat) (a' : Option Addr) (c' : Nat), v = .tuple #[.agg #[iV m.1, iV m.2.1, .slice a m.2.2.length c], .agg #[iV m'.1, iV m'.2.1, .slice a' m'.2.2.length c']] ∧ H = [.own (iT m'.2.2) (.slice a' m'.2.2.length c'), .own (iT m.2.2) (.slice a m.2.2.length c)]) := by
  have tok0 : True := trivial
  have tok1 : True := trivial
  refine fn_enter Tryz.func45 rfl Tryz.ntmps45 rfl ?_
  repeat' (first | (show oL; first | refine sMv rfl rfl ?_ | refine sAs rfl rfl ?_ | (show oA (.call _); first | (refine m_call (ent_of Tryz.func97 kr rfl) rfl rfl (fun w c => l1New_ok (hp_code c hc)) ?_; rintro v H' ⟨b, ch, rfl, rfl⟩) | (refine m_callL 0 (ent_of Tryz.func99 kr rfl) rfl rfl rfl (fun w M' hl => l3Any_ok 3 hl hc (Nat.zero_le _)) ?_; rintro v H' ⟨i, ch, _, hi, rfl, m, am, cm, rfl, hm, rfl⟩) | (refine m_callL 1 (ent_of Tryz.func108 kr rfl) rfl rfl rfl (fun w M' hl => l1Once_ok 2 hl hc hi) ?_; rintro v H' ⟨i, ch, _, hi, rfl, (_ | _), rfl, rfl⟩)) | (show oA (.store _ _ _); refine m_storeb 0 tabs rfl rfl rfl rfl rfl rfl rfl ?_) | (show oA (.alloc _); first | (have _t := tok0; refine m_alloc tabs rfl rfl (fun b2 hb2 => ?_); clear _t tok0) | (have _t := tok1; refine m_alloc tabs rfl rfl (fun b3 hb3 => ?_); clear _t tok1) | refine m_alloc tabs rfl rfl (fun b7 hb7 => ?_))) | refine xNt ?_ | (show oC; first | refine c_seq ?_ | refine c_region ?_ | refine c_skip (x_then ?_) | refine c_true rfl ?_ | refine c_false rfl ?_))
  · skip
    refine c_all (Hp [] w [.blk b7 #[iV m.1, iV m.2.1, .slice am m.2.2.length cm] 41]) kr (fun _ c => Hp.drew c) ?_
    refine h_take 0 rfl kr kr kr (by exact y_loadb 0 tabs rfl rfl rfl rfl) rfl sS ?_
    refine h_take 1 rfl kr kr kr (by exact y_move rfl) rfl sS ?_
    refine h_only 2 rfl kr ?_
    first | (refine m_callL 0 (ent_of Tryz.func99 kr rfl) rfl rfl rfl (fun w M' hl => l3Any_ok 3 hl hc hi) ?_; rintro v H' ⟨i, ch, _, hi, rfl, k, ak, ck, rfl, hk, rfl⟩) | (refine m_storeb 5 tabs rfl rfl rfl rfl rfl rfl rfl ?_) | (refine m_storeb 4 tabs rfl rfl rfl rfl rfl rfl rfl ?_) | (refine m_storeb 4 tabs rfl rfl rfl rfl rfl rfl rfl ?_)
    refine c_nil (x_one (h_keep sS ?_))
    refine h_only 3 rfl kr ?_
    first | (refine m_callL 0 (ent_of Tryz.func99 kr rfl) rfl rfl rfl (fun w M' hl => l3Any_ok 3 hl hc hi) ?_; rintro v H' ⟨i, ch, _, hi, rfl, k, ak, ck, rfl, hk, rfl⟩) | (refine m_storeb 5 tabs rfl rfl rfl rfl rfl rfl rfl ?_) | (refine m_storeb 4 tabs rfl rfl rfl rfl rfl rfl rfl ?_) | (refine m_storeb 4 tabs rfl rfl rfl rfl rfl rfl rfl ?_)
    refine c_nil (x_one (h_keep sS ?_))
    refine h_only 4 rfl kr ?_
    first | (refine m_callL 0 (ent_of Tryz.func99 kr rfl) rfl rfl rfl (fun w M' hl => l3Any_ok 3 hl hc hi) ?_; rintro v H' ⟨i, ch, _, hi, rfl, k, ak, ck, rfl, hk, rfl⟩) | (refine m_storeb 5 tabs rfl rfl rfl rfl rfl rfl rfl ?_) | (refine m_storeb 4 tabs rfl rfl rfl rfl rfl rfl rfl ?_) | (refine m_storeb 4 tabs rfl rfl rfl rfl rfl rfl rfl ?_)
    refine c_nil (x_one (h_keep sS ?_))
    refine h_end kr ?_
    repeat' (first | (show oC; refine c_ret ?_) | (show AT _ _ _ _; refine x_then ?_))
    exact x_ret2 Tryz.results45 (res_cellb 5 tabs rfl rfl rfl rfl) (res_cellb 4 tabs rfl rfl rfl rfl) (fun w' c' => ⟨_, _, rfl, ⟨m, am, cm, k, ak, ck, rfl, rfl⟩, c'.sub (.cons _ (.cons_cons _ (.cons _ (.cons_cons _ (List.nil_sublist _)))))⟩)
  · skip
    refine c_all (Hp [] w [.blk b7 #[iV m.1, iV m.2.1, .slice am m.2.2.length cm] 41]) kr (fun _ c => Hp.drew c) ?_
    refine h_take 0 rfl kr kr kr (by exact y_loadb 0 tabs rfl rfl rfl rfl) rfl sS ?_
    refine h_take 1 rfl kr kr kr (by exact y_loadb 0 tabs rfl rfl rfl rfl) rfl sS ?_
    refine h_only 2 rfl kr ?_
    first | (refine m_call (ent_of Tryz.func128 kr rfl) rfl rfl (fun w c => l3Copy_ok (m := m) (c.own_rd (i := 2) rfl) om) ?_; rintro v H' ⟨ak, ck, rfl, _, rfl⟩) | (refine m_storeb 5 tabs rfl rfl rfl rfl rfl rfl rfl ?_) | (refine m_storeb 4 tabs rfl rfl rfl rfl rfl rfl rfl ?_) | (refine m_storeb 4 tabs rfl rfl rfl rfl rfl rfl rfl ?_)
    refine c_nil (x_one (h_keep sS ?_))
    refine h_only 3 rfl kr ?_
    first | (refine m_call (ent_of Tryz.func128 kr rfl) rfl rfl (fun w c => l3Copy_ok (m := m) (c.own_rd (i := 2) rfl) om) ?_; rintro v H' ⟨ak, ck, rfl, _, rfl⟩) | (refine m_storeb 5 tabs rfl rfl rfl rfl rfl rfl rfl ?_) | (refine m_storeb 4 tabs rfl rfl rfl rfl rfl rfl rfl ?_) | (refine m_storeb 4 tabs rfl rfl rfl rfl rfl rfl rfl ?_)
    refine c_nil (x_one (h_keep sS ?_))
    refine h_only 4 rfl kr ?_
    first | (refine m_call (ent_of Tryz.func128 kr rfl) rfl rfl (fun w c => l3Copy_ok (m := m) (c.own_rd (i := 2) rfl) om) ?_; rintro v H' ⟨ak, ck, rfl, _, rfl⟩) | (refine m_storeb 5 tabs rfl rfl rfl rfl rfl rfl rfl ?_) | (refine m_storeb 4 tabs rfl rfl rfl rfl rfl rfl rfl ?_) | (refine m_storeb 4 tabs rfl rfl rfl rfl rfl rfl rfl ?_)
    refine c_nil (x_one (h_keep sS ?_))
    refine h_end kr ?_
    repeat' (first | (show oC; refine c_ret ?_) | (show AT _ _ _ _; first | refine x_then ?_ | refine x_then_ret ?_))
    exact x_ret2 Tryz.results45 (res_cellb 5 tabs rfl rfl rfl rfl) (res_cellb 4 tabs rfl rfl rfl rfl) (fun w' c' => ⟨_, _, rfl, ⟨m, am, cm, m, ak, ck, rfl, rfl⟩, c'.sub (.cons_cons _ (.cons _ (.cons _ (.cons_cons _ (List.nil_sublist _)))))⟩)
end Go.Proofs.YtdnhmnnccfoliaaGreatDoor
