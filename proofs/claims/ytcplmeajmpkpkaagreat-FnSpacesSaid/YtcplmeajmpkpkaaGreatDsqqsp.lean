import Derived.Test.YtcplmeajmpkpkaaGreatDrwqsp
import Derived.Test.YtcplmeajmpkpkaaGreatLlsqsp
import Derived.Test.YtcplmeajmpkpkaaGreatLsoqsp
import Derived.Test.YtcplmeajmpkpkaaGreatMefqsp
import Derived.Test.YtcplmeajmpkpkaaGreatMorqsp
import Derived.Test.YtcplmeajmpkpkaaGreatZsbqsp
namespace Go.Proofs.YtcplmeajmpkpkaaGreat
open Go.Lg Go.Proofs Go.RowKit
attribute [local irreducible] Code.wp wpList bodyPost Exit.then Exit.inBlock Hp Again Calls Y AT ResV QT Qn QI wpAny wpAnyQ
set_option maxRecDepth 20000
set_option maxHeartbeats 4000000

abbrev GivesL (n : Nat) (v : Value) (H : List HE) : Prop := ∃ (xs : List Int) (a : Option Addr) (c : Nat), v = .slice a xs.length c ∧ xs.length = n ∧ H = [.own (iT xs) (.slice a xs.length c)]
theorem l2Vector_ok {w1 : World} {M1 : List Nat} {H1 : List HE} {w : World} {M' : List Nat} {u : Value} {b i : Nat} {h : Int} (p n : Int) (hl : Lent M1 w1 (cu u b i h) H1 M' w) (hc : CodeF w1 M1 u) (hi : i ≤ vlen u) (hn : n ≤ 1000) :
    DoesB Tryz.prog 60 [cuV b, iV p, iV n] w M' (Gcu u b (GivesL n.toNat)) := by
  have hc2 := lent_code hl hc
  refine fnb_lent Tryz.func60 rfl Tryz.ntmps60 rfl hl ?_
  repeat' (first | (show oL; first | refine sAs rfl rfl ?_ | (show oA (.buildSlice _ _ _); refine m_build0 tabs rfl rfl (fun g hg => ?_))) | refine xNt ?_ | (show oC; first | refine c_seq ?_ | refine c_region ?_ | refine c_block ?_))
  refine c_loopH (α := List Int × Option Addr × Nat × Nat × Int) [0, 1, 2] (fun s => [(7, .slice s.2.1 s.1.length s.2.2.1), (8, iV s.1.length)]) (fun s => (s.1.length ≤ n.toNat) ∧ s.2.2.2.1 ≤ vlen u) (fun s => [.own (iT s.1) (.slice s.2.1 s.1.length s.2.2.1), cu u b s.2.2.2.1 s.2.2.2.2]) (fun s => n.toNat - s.1.length) ([], some ⟨g, 0, none⟩, 0, i, h) rfl sB ?_ ?_ ?_
  · exact ⟨Nat.zero_le _, hi⟩
  · exact fun w' c' => c'
  · rintro ⟨xs, a, c, i, ch⟩ ⟨hx, hi⟩
    simp only at hx hi ⊢
    refine AT.fact (own_sl 0 rfl) (fun hsl => ?_)
    obtain ⟨_, _, e, hs⟩ := hsl
    cases e
    repeat' (first | (show oL; first | refine sMv rfl rfl ?_ | refine sAs rfl rfl ?_ | (show oA (.indexAddr _ _ _); refine st_y (y_ix1 tabs (j := 0) rfl rfl rfl hs rfl om) rfl ?_) | (show oA (.binOp _ _ _ _ _); first | refine sAd rfl rfl om rfl ?_ | refine sLs rfl rfl rfl ?_ | refine st_y (y_gtr rfl rfl) rfl ?_) | (show oA (.call _); first | refine st_y (y_max rfl rfl) rfl ?_ | refine st_y (y_min rfl rfl) rfl ?_ | (refine m_callL 1 (ent_of Tryz.func50 kr rfl) rfl rfl rfl (fun w M' hl => l1Below_ok (max 1 (min 5 p)) hl hc2 hi) ?_; rintro v H' ⟨i, ch, _, hi, rfl, x, rfl, hx, rfl⟩) | refine m_pushi 1 tabs rfl rfl rfl rfl rfl om (fun a9 c9 => ?_) | (refine m_callL 1 (ent_of Tryz.func57 kr rfl) rfl rfl rfl (fun w M' hl => l1Once_ok 20 hl hc2 hi) ?_; rintro v H' ⟨i, ch, _, hi, rfl, (_ | _), rfl, rfl⟩) | (refine m_callL 1 (ent_of Tryz.func49 kr rfl) rfl rfl rfl (fun w M' hl => l1PickInt_ok hl hc2 hi (hl.own 0 rfl) (by decide)) ?_; rintro v H' ⟨i, ch, _, hi, rfl, x, rfl, hx, rfl⟩)) | (show oA (.pick _ _ _); first | refine st_y (y_pickt rfl aO rfl) rfl ?_ | refine st_y (y_pickf rfl aO rfl) rfl ?_) | (show oA (.store _ _ _); refine m_storeo 2 (j := 0) tabs rfl rfl rfl rfl om ?_) | (show oA (.buildSlice _ _ _); first | refine m_build1 tabs (us := [iV x]) rfl rfl rfl rfl (by decide) rfl (fun g5 hg5 => ?_) | refine m_buildi tabs [-1, 5, 9223372036854775807] rfl rfl rfl rfl rfl rfl rfl (fun g hg => ?_)) | refine st_gdy rfl rfl aO ?_ | refine st_gdn rfl rfl aO rfl ?_ | refine st_gd rfl rfl (fun h => ?_) (fun h => ?_)) | (show oN; first | refine c_nil (x_then ?_) | refine c_nil ?_) | (show oC; first | refine c_seq ?_ | refine c_region ?_ | refine c_skip (x_then ?_) | refine c_block ?_ | refine c_ret ?_ | refine c_exit ?_ | refine c_true rfl ?_ | refine c_false rfl ?_ | refine c_if rfl (fun h => ?_) (fun h => ?_)) | (show AT _ _ _ _; first | refine x_then ?_ | refine x_then_exit ?_ | refine x_blk_exit rfl ?_ | refine x_blk ?_))
    · exact x_nx (xs ++ [x], a9, c9, i, ch) (by simp only [List.length_append, List.length_singleton]; repeat' (first | exact Sub.nil | refine Sub.cons rfl ?_ | refine Sub.consi rfl om ?_)) ⟨by simp only [List.length_append, List.length_singleton]; omega, hi⟩ (fun w' c' => by rw [List.length_append]; exact c') (by simp only [List.length_append, List.length_singleton]; omega)
    · exact x_ret1 Tryz.results60 (res_tmp rfl) (fun w' c' => ⟨_, _, rfl, ⟨i, ch, _, hi, rfl, xs, a, c, rfl, by omega, rfl⟩, c'⟩)
    · exact x_ret1 Tryz.results60 (res_tmp rfl) (fun w' c' => ⟨_, _, rfl, ⟨i, ch, _, hi, rfl, xs.set 0 x, a, c, by rw [List.length_set], by rw [List.length_set]; omega, rfl⟩, by rw [List.length_set]; exact c'.sub (.cons_cons _ (.cons _ (List.Sublist.refl _)))⟩)
    · exact x_ret1 Tryz.results60 (res_tmp rfl) (fun w' c' => ⟨_, _, rfl, ⟨i, _, _, hi, rfl, xs, a, c, rfl, by omega, rfl⟩, c'.swap⟩)
theorem l3Random_ok {w1 : World} {M1 : List Nat} {H1 : List HE} {w : World} {M' : List Nat} {u : Value} {b i : Nat} {h : Int} (p : Int) {R C : Nat} (hl : Lent M1 w1 (cu u b i h) H1 M' w) (hc : CodeF w1 M1 u) (hi : i ≤ vlen u) (hR : R ≤ 1000) (hC : C ≤ 1000) :
    DoesB Tryz.prog 103 [cuV b, iV p, iV R, iV C] w M' (Gcu u b (fun v H => ∃ (xs : List Int) (a : Option Addr) (c : Nat), v = .agg #[iV R, iV C, .slice a xs.length c] ∧ xs.length = R * C ∧ H = [.own (iT xs) (.slice a xs.length c)])) := by
  have hc2 := lent_code hl hc
  have hRC := rc_le (R := R) (C := C) om om
  refine fnb_lent Tryz.func103 rfl Tryz.ntmps103 rfl hl ?_
  repeat' (first | (show oL; first | refine sMv rfl rfl ?_ | refine sAs rfl rfl ?_ | (show oA (.call _); (refine m_call (ent_of Tryz.func81 kr rfl) rfl rfl (fun w c => l3Zero_ok (R := R) (C := C) om om) ?_; rintro v H' ⟨am, cm, rfl, hsm, rfl⟩)) | (show oA (.store _ _ _); refine m_storeb 0 tabs rfl rfl rfl rfl rfl rfl rfl ?_) | (show oA (.alloc _); refine m_alloc tabs rfl rfl (fun b9 hb9 => ?_))) | refine xNt ?_ | (show oC; first | refine c_seq ?_ | refine c_region ?_ | refine c_block ?_))
  rename_i b8 hb8
  refine c_loopH (α := List Int × Nat × Nat × Int) [0, 1, 8, 9] (fun s => [(10, iV s.2.1)]) (fun s => (s.1.length = R * C ∧ s.2.1 ≤ R * C) ∧ s.2.2.1 ≤ vlen u) (fun s => [.own (iT s.1) (.slice am (R * C) cm), cu u b s.2.2.1 s.2.2.2, .blk b9 #[iV R, iV C, .slice am (R * C) cm] 47, .blk b8 #[iV 0, iV 0, .slice none 0 0] 47]) (fun s => R * C - s.2.1) (mk R C (fun _ _ => 0), 0, i, h) rfl sB ?_ ?_ ?_
  · exact ⟨⟨by simp, Nat.zero_le _⟩, hi⟩
  · intro w' c'
    have h1 := (c'.front (i := 3) rfl).front (i := 2) rfl
    exact h1
  · rintro ⟨xs, k, i, ch⟩ ⟨⟨hx, hk⟩, hi⟩
    simp only at hx hk hi ⊢
    by_cases hin : k < R * C
    · repeat' (first | (show oL; first | refine sMv rfl rfl ?_ | refine sFd tabs rfl rfl rfl rfl ?_ | refine sLd 2 tabs rfl rfl rfl rfl rfl ?_ | refine sLs rfl rfl rfl ?_ | refine sLn tabs rfl rfl rfl ?_) | refine xNt ?_ | (show oC; first | refine c_seq ?_ | refine c_region ?_ | refine c_skip (x_then ?_) | refine c_block ?_ | refine c_ift rfl aO ?_))
      refine c_all (Hp M' w [.blk b9 #[iV R, iV C, .slice am (R * C) cm] 47]) kr (fun _ c => Hp.drew c) ?_
      refine h_take 0 rfl kr kr kr (by exact y_field tabs rfl rfl rfl) rfl sS ?_
      refine h_take 1 rfl kr kr kr (by exact y_load tabs rfl rfl (hc_blk 0 rfl rfl)) rfl sS ?_
      refine h_take 2 rfl kr kr kr (by exact y_move rfl) rfl sS ?_
      refine h_take 3 rfl kr kr kr (by exact y_move rfl) rfl sS ?_
      refine h_take 4 rfl kr kr kr (by exact y_move rfl) rfl sS ?_
      refine h_take 5 rfl kr kr kr (by exact y_min rfl rfl) rfl sS ?_
      refine h_take 6 rfl kr kr kr (by exact y_max rfl rfl) rfl sS ?_
      refine h_only 7 rfl kr ?_
      first | (refine m_callL 1 (ent_of Tryz.func50 kr rfl) rfl rfl rfl (fun w M' hl => l1Below_ok (max 1 (min 5 p)) hl hc2 hi) ?_; rintro v H' ⟨i, ch, _, hi, rfl, x, rfl, hx2, rfl⟩) | (refine m_storeo 1 (j := k) tabs rfl rfl rfl rfl om ?_)
      refine c_nil (x_one (h_keep sS ?_))
      refine h_take 8 rfl kr kr kr (by exact y_ix1 tabs (j := k) rfl rfl rfl hsm rfl hin) rfl sS ?_
      refine h_only 9 rfl kr ?_
      first | (refine m_callL 1 (ent_of Tryz.func50 kr rfl) rfl rfl rfl (fun w M' hl => l1Below_ok (max 1 (min 5 p)) hl hc2 hi) ?_; rintro v H' ⟨i, ch, _, hi, rfl, x, rfl, hx2, rfl⟩) | (refine m_storeo 1 (j := k) tabs rfl rfl rfl rfl om ?_)
      refine c_nil (x_one (h_keep sS ?_))
      refine h_end kr ?_
      repeat' (first | (show oL; first | refine sMv rfl rfl ?_ | refine sAs rfl rfl ?_ | refine sAd rfl rfl om rfl ?_) | refine xNt ?_ | (show oC; refine c_region ?_) | (show AT _ _ _ _; first | refine x_then ?_ | refine x_blk ?_))
      exact x_nx (xs.set k x, k + 1, i, ch) sB ⟨⟨by simp only [List.length_set]; omega, by simp only; omega⟩, hi⟩ (fun w' c' => c'.swap) (by simp only; omega)
    · have : k = R * C := by omega
      subst this
      repeat' (first | (show oL; first | refine sMv rfl rfl ?_ | refine sFd tabs rfl rfl rfl rfl ?_ | (show oA (.load _ _); first | refine sLd 2 tabs rfl rfl rfl rfl rfl ?_ | refine sLb 2 tabs rfl rfl rfl rfl rfl ?_) | refine sLs rfl rfl rfl ?_ | refine sLn tabs rfl rfl rfl ?_ | (show oA (.store _ _ _); refine m_storeb 3 tabs rfl rfl rfl rfl rfl rfl rfl ?_)) | refine xNt ?_ | (show oC; first | refine c_seq ?_ | refine c_region ?_ | refine c_ret ?_ | refine c_exit ?_ | refine c_iff rfl nN ?_) | (show AT _ _ _ _; first | refine x_then ?_ | refine x_then_exit ?_ | refine x_blk_exit rfl ?_))
      exact x_ret1 Tryz.results103 (res_cellb 3 tabs rfl rfl rfl rfl) (fun w' c' => ⟨_, _, rfl, ⟨i, ch, _, hi, rfl, xs, am, cm, by rw [hx], hx, rfl⟩, by rw [hx]; exact c'.swap.sub (.cons_cons _ (.cons_cons _ (List.nil_sublist _)))⟩)
abbrev GivesAny (v : Value) (H : List HE) : Prop := ∃ (m : Mat) (a : Option Addr) (c : Nat), v = .agg #[iV m.1, iV m.2.1, .slice a m.2.2.length c] ∧ (m.2.2.length ≤ 16 ∧ 0 ≤ m.2.1 ∧ m.2.1 ≤ 3) ∧ H = [.own (iT m.2.2) (.slice a m.2.2.length c)]
theorem l3Any_ok {w1 : World} {M1 : List Nat} {H1 : List HE} {w : World} {M' : List Nat} {u : Value} {b i : Nat} {h : Int} (p : Int) (hl : Lent M1 w1 (cu u b i h) H1 M' w) (hc : CodeF w1 M1 u) (hi : i ≤ vlen u) :
    DoesB Tryz.prog 61 [cuV b, iV p] w M' (Gcu u b GivesAny) := by
  have hc2 := lent_code hl hc
  refine fnb_lent Tryz.func61 rfl Tryz.ntmps61 rfl hl ?_
  have hRC : ∀ R C : Nat, R < 4 → C < 4 → R * C ≤ 9 := fun R C hR hC => Nat.mul_le_mul (show R ≤ 3 by omega) (show C ≤ 3 by omega)
  repeat' (first | (show oL; first | refine sMv rfl rfl ?_ | refine sAs rfl rfl ?_ | refine sFd tabs rfl rfl rfl rfl ?_ | (show oA (.load _ _); first | refine sLd 1 tabs rfl rfl rfl rfl rfl ?_ | refine sLb 1 tabs rfl rfl rfl rfl rfl ?_ | refine sLb 2 tabs rfl rfl rfl rfl rfl ?_) | (show oA (.binOp _ _ _ _ _); first | refine st_y (y_gtr rfl rfl) rfl ?_ | refine st_y (y_eql rfl rfl) rfl ?_) | (show oA (.call _); first | (refine m_callL 1 (ent_of Tryz.func50 kr rfl) rfl rfl rfl (fun w M' hl => l1BelowN_ok 4 (by decide) hl hc2 hi) ?_; rintro v H' ⟨i, ch, _, hi, rfl, R, rfl, hR, rfl⟩) | (refine m_callL 0 (ent_of Tryz.func50 kr rfl) rfl rfl rfl (fun w M' hl => l1BelowN_ok 4 (by decide) hl hc2 hi) ?_; rintro v H' ⟨i, ch, _, hi, rfl, C, rfl, hC, rfl⟩) | (refine m_callL 0 (ent_of Tryz.func103 kr rfl) rfl rfl rfl (fun w M' hl => l3Random_ok p (R := R) (C := C) hl hc2 hi om om) ?_; rintro v H' ⟨i, ch, _, hi, rfl, xs, a, c, rfl, hx, rfl⟩; have hxl := hRC R C hR hC; rw [← hx] at hxl) | (refine m_callL 1 (ent_of Tryz.func50 kr rfl) rfl rfl rfl (fun w M' hl => l1BelowN_ok 18 (by decide) hl hc2 hi) ?_; rintro v H' ⟨i, ch, _, hi, rfl, z, rfl, hz, rfl⟩) | (refine m_callL 1 (ent_of Tryz.func49 kr rfl) rfl rfl rfl (fun w M' hl => l1PickInt_ok hl hc2 hi (hl.own 0 rfl) (by decide)) ?_; rintro v H' ⟨i, ch, _, hi, rfl, y, rfl, hy, rfl⟩) | refine m_pushi 2 tabs rfl rfl rfl rfl rfl om (fun a9 c9 => ?_) | refine sLn tabs rfl rfl rfl ?_) | (show oA (.store _ _ _); first | refine m_storeb 0 tabs rfl rfl rfl rfl rfl rfl rfl ?_ | refine m_storef 2 tabs rfl rfl rfl rfl rfl rfl ?_ | refine m_storeb 4 tabs rfl rfl rfl rfl rfl rfl rfl ?_ | refine m_storeb 3 tabs rfl rfl rfl rfl rfl rfl rfl ?_) | (show oA (.alloc _); refine m_alloc tabs rfl rfl (fun b9 hb9 => ?_)) | (show oA (.buildSlice _ _ _); first | refine m_buildi tabs [-1, 9, 2, 9223372036854775807] rfl rfl rfl rfl rfl rfl rfl (fun g hg => ?_) | refine m_build1 tabs (us := [iV 0]) rfl rfl rfl rfl (by decide) rfl (fun g5 hg5 => ?_))) | (show oN; first | refine c_nil (x_then ?_) | refine c_nil ?_) | (show oC; first | refine c_seq ?_ | refine c_region ?_ | refine c_skip (x_blk ?_) | refine c_block ?_ | refine c_ret ?_ | refine c_if rfl (fun h => ?_) (fun h => ?_)) | (show AT _ _ _ _; first | refine x_then ?_ | refine x_blk ?_))
  · exact x_ret1 Tryz.results61 (res_cellb 4 tabs rfl rfl rfl rfl) (fun w' c' => ⟨_, _, rfl, ⟨i, ch, _, hi, rfl, (y, (C : Int), xs), a, c, rfl, ⟨by simp only; omega, by simp only; omega, by simp only; omega⟩, rfl⟩, c'.sub (.cons_cons _ (.cons _ (.cons _ (.cons_cons _ (List.nil_sublist _)))))⟩)
  · exact x_ret1 Tryz.results61 (res_cellb 3 tabs rfl rfl rfl rfl) (fun w' c' => ⟨_, _, rfl, ⟨i, ch, _, hi, rfl, ((R : Int), (C : Int), xs ++ [0]), a9, c9, by rw [List.length_append]; rfl, ⟨by simp only [List.length_append, List.length_singleton]; omega, by simp only; omega, by simp only; omega⟩, rfl⟩, by rw [List.length_append]; exact c'.swap.sub (.cons_cons _ (.cons_cons _ (List.nil_sublist _)))⟩)
  · rename_i b8 hb8 _ _ _ _ _ _ _ _ _ _ _ _
    refine AT.fact (own_sl 2 rfl) (fun hsl => ?_)
    obtain ⟨_, _, e, hs⟩ := hsl
    cases e
    refine c_all (Hp M' w [.blk b9 #[iV R, iV C, .slice a xs.length c] 47]) kr (fun _ c => Hp.drew c) ?_
    refine h_take 0 rfl kr kr kr (by exact y_field tabs rfl rfl rfl) rfl sS ?_
    refine h_take 1 rfl kr kr kr (by exact y_load tabs rfl rfl (hc_blk 0 rfl rfl)) rfl sS ?_
    refine h_take 2 rfl kr kr kr (by exact y_move rfl) rfl sS ?_
    refine h_only 3 rfl kr ?_
    first | (refine m_buildi tabs [-1, 5, 2] rfl rfl rfl rfl rfl rfl rfl (fun g hg => ?_)) | (refine m_callL 1 (ent_of Tryz.func49 kr rfl) rfl rfl rfl (fun w M' hl => l1PickInt_ok hl hc2 hi (hl.own 0 rfl) (by decide)) ?_; rintro v H' ⟨i, ch, _, hi, rfl, y, rfl, hy, rfl⟩) | (refine m_storeo 3 (j := 0) tabs rfl rfl rfl rfl om ?_)
    refine c_nil (x_one (h_keep sS ?_))
    refine h_only 4 rfl kr ?_
    first | (refine m_buildi tabs [-1, 5, 2] rfl rfl rfl rfl rfl rfl rfl (fun g hg => ?_)) | (refine m_callL 1 (ent_of Tryz.func49 kr rfl) rfl rfl rfl (fun w M' hl => l1PickInt_ok hl hc2 hi (hl.own 0 rfl) (by decide)) ?_; rintro v H' ⟨i, ch, _, hi, rfl, y, rfl, hy, rfl⟩) | (refine m_storeo 3 (j := 0) tabs rfl rfl rfl rfl om ?_)
    refine c_nil (x_one (h_keep sS ?_))
    refine h_take 5 rfl kr kr kr (by exact y_ix1 tabs (j := 0) rfl rfl rfl hs rfl om) rfl sS ?_
    refine h_only 6 rfl kr ?_
    first | (refine m_buildi tabs [-1, 5, 2] rfl rfl rfl rfl rfl rfl rfl (fun g hg => ?_)) | (refine m_callL 1 (ent_of Tryz.func49 kr rfl) rfl rfl rfl (fun w M' hl => l1PickInt_ok hl hc2 hi (hl.own 0 rfl) (by decide)) ?_; rintro v H' ⟨i, ch, _, hi, rfl, y, rfl, hy, rfl⟩) | (refine m_storeo 3 (j := 0) tabs rfl rfl rfl rfl om ?_)
    refine c_nil (x_one (h_keep sS ?_))
    refine h_end kr ?_
    repeat' (first | (show oL; first | refine sLb 2 tabs rfl rfl rfl rfl rfl ?_ | (show oA (.store _ _ _); refine m_storeb 4 tabs rfl rfl rfl rfl rfl rfl rfl ?_)) | refine xNt ?_ | (show oC; first | refine c_seq ?_ | refine c_region ?_ | refine c_ret ?_) | (show AT _ _ _ _; first | refine x_then ?_ | refine x_blk ?_))
    exact x_ret1 Tryz.results61 (res_cellb 4 tabs rfl rfl rfl rfl) (fun w' c' => ⟨_, _, rfl, ⟨i, ch, _, hi, rfl, ((R : Int), (C : Int), xs.set 0 y), a, c, by rw [List.length_set], ⟨by simp only [List.length_set]; omega, by simp only; omega, by simp only; omega⟩, rfl⟩, by rw [List.length_set]; exact c'.sub (.cons_cons _ (.cons _ (.cons _ (.cons_cons _ (List.nil_sublist _)))))⟩)
  all_goals exact x_ret1 Tryz.results61 (res_cellb 3 tabs rfl rfl rfl rfl) (fun w' c' => ⟨_, _, rfl, ⟨i, ch, _, hi, rfl, ((R : Int), (C : Int), xs), a, c, rfl, ⟨by simp only; omega, by simp only; omega, by simp only; omega⟩, rfl⟩, c'.sub (.cons_cons _ (.cons _ (.cons_cons _ (List.nil_sublist _))))⟩)
theorem hp_code {w w' : World} {H : List HE} {u : Value} (c : Hp [] w H w') (hc : CodeF w [] u) : CodeF w' [] u := by
  obtain ⟨xs, h, hb⟩ := hc
  exact ⟨xs, RdOut.of_rd (h.rd c), hb⟩
end Go.Proofs.YtcplmeajmpkpkaaGreat

namespace Go.Proofs.YtcplmeajmpkpkaaGreat
open Go.Lg Go.Proofs Go.RowKit
attribute [local irreducible] Code.wp wpList bodyPost Exit.then Exit.inBlock Hp Again Calls Y AT ResV QT Qn QI wpAny wpAnyQ
set_option maxRecDepth 20000
set_option maxHeartbeats 4000000

def GivesVs (v : Value) (H : List HE) : Prop := ∃ (rs : List (List Int)) (a : Option Addr) (c : Nat), v = .slice a rs.length c ∧ rs.length ≤ 3 ∧ H = [.own (rowsT 43 rs) (.slice a rs.length c)]
def ShP (s : Sp) : Prop := s.2.length ≤ 8 ∧ ∀ x ∈ s.2, x.length ≤ 8
def GivesAs (v : Value) (H : List HE) : Prop := ∃ (s : Sp) (a : Option Addr) (c : Nat), v = .agg #[iV s.1, .slice a s.2.length c] ∧ ShP s ∧ H = [.own (rowsT 43 s.2) (.slice a s.2.length c)]
theorem l5Vectors_ok {w1 : World} {M1 : List Nat} {H1 : List HE} {w : World} {M' : List Nat} {u : Value} {b i : Nat} {h : Int} (p n : Int) (hl : Lent M1 w1 (cu u b i h) H1 M' w) (hc : CodeF w1 M1 u) (hi : i ≤ vlen u) (hn : n ≤ 1000) :
    DoesB Tryz.prog 56 [cuV b, iV p, iV n] w M' (Gcu u b GivesVs) := by
  have hc2 := lent_code hl hc
  refine fnb_lent Tryz.func56 rfl Tryz.ntmps56 rfl hl ?_
  repeat' (first | (show oL; first | refine sMv rfl rfl ?_ | refine sAs rfl rfl ?_ | (show oA (.call _); (refine m_callL 1 (ent_of Tryz.func50 kr rfl) rfl rfl rfl (fun w M' hl => l1BelowN_ok 4 (by decide) hl hc2 hi) ?_; rintro v H' ⟨i, ch, _, hi, rfl, k0, rfl, hk0, rfl⟩)) | (show oA (.buildSlice _ _ _); refine m_build0 tabs rfl rfl (fun g hg => ?_))) | refine xNt ?_ | (show oC; first | refine c_seq ?_ | refine c_region ?_ | refine c_block ?_))
  refine c_loopH (α := List (List Int) × Option Addr × Nat × Nat × Int) [0, 1, 2] (fun s => [(7, .slice s.2.1 s.1.length s.2.2.1), (8, iV ((k0 : Int) - s.1.length))]) (fun s => (s.1.length ≤ k0) ∧ s.2.2.2.1 ≤ vlen u) (fun s => [.own (rowsT 43 s.1) (.slice s.2.1 s.1.length s.2.2.1), cu u b s.2.2.2.1 s.2.2.2.2]) (fun s => k0 - s.1.length) ([], some ⟨g, 0, none⟩, 0, i, ch) rfl sB ?_ ?_ ?_
  · exact ⟨Nat.zero_le _, hi⟩
  · exact fun w' c' => c'.swap
  · rintro ⟨rs, a, c, i, ch⟩ ⟨hx, hi⟩
    simp only at hx hi ⊢
    by_cases hk : rs.length < k0
    · repeat' (first | (show oL; first | refine sMv rfl rfl ?_ | refine sAs rfl rfl ?_ | (show oA (.binOp _ _ _ _ _); first | refine st_y (y_sub rfl rfl om) rfl ?_ | refine st_y (y_gtr rfl rfl) rfl ?_) | (show oA (.call _); first | (refine m_callL 1 (ent_of Tryz.func60 kr rfl) rfl rfl rfl (fun w M' hl => l2Vector_ok p n hl hc2 hi hn) ?_; rintro v H' ⟨i, ch, _, hi, rfl, xs, ax, cx, rfl, hxl, rfl⟩) | refine m_push1 [] 1 1 tabs (m' := rs.length) rfl rfl rfl rfl rfl rfl rfl (by simp [rowT_map]) (by simp [rowT_map]; omega) (by decide) rfl rfl (fun a9 c9 => ?_)) | (show oA (.buildSlice _ _ _); refine m_build1 tabs (us := [.slice ax xs.length cx]) rfl rfl rfl rfl (by decide) rfl (fun g5 hg5 => ?_))) | (show oN; first | refine c_nil (x_then ?_) | refine c_nil ?_) | (show oC; first | refine c_seq ?_ | refine c_region ?_ | refine c_skip (x_then ?_) | refine c_block ?_ | refine c_ift rfl aO ?_) | (show AT _ _ _ _; first | refine x_then ?_ | refine x_blk ?_))
      refine x_nx (rs ++ [xs], a9, c9, i, ch) (by simp only [List.length_append, List.length_singleton]; repeat' (first | exact Sub.nil | refine Sub.cons rfl ?_ | refine Sub.consi rfl om ?_)) ⟨by simp only [List.length_append, List.length_singleton]; omega, hi⟩ (fun w' c' => ?_) (by simp only [List.length_append, List.length_singleton]; omega)
      have e : rowsT 43 (rs ++ [xs]) = .s 43 1 (rs.flatMap rowT ++ (([] : List Value).map T.c ++ [iT xs])) := by
        unfold rowsT
        rw [List.flatMap_append]
        rfl
      simp only [List.length_append, List.length_singleton]
      rw [e]
      exact c'
    · have hke : rs.length = k0 := by omega
      repeat' (first | (show oL; first | refine sMv rfl rfl ?_ | refine sAs rfl rfl ?_ | (show oA (.binOp _ _ _ _ _); refine st_y (y_gtr rfl rfl) rfl ?_)) | refine xNt ?_ | (show oC; first | refine c_seq ?_ | refine c_region ?_ | refine c_ret ?_ | refine c_exit ?_ | refine c_iff rfl nN ?_) | (show AT _ _ _ _; first | refine x_then ?_ | refine x_then_exit ?_ | refine x_blk_exit rfl ?_))
      exact x_ret1 Tryz.results56 (res_tmp rfl) (fun w' c' => ⟨_, _, rfl, ⟨i, ch, _, hi, rfl, rs, a, c, rfl, by omega, rfl⟩, c'.swap⟩)
theorem span_row {p n : Int} {l : List (List Int)} : ∀ x ∈ (spanS p n l).2, 0 < x.length := fun x hx => by
  unfold spanS at hx
  split at hx
  · simp only [basL, rowL, List.mem_map, List.mem_range] at hx
    obtain ⟨i, hi, rfl⟩ := hx
    have := redL_length (p := p) (R := l.length) (f := rowsF l) n.toNat
    rw [mkv_length]
    omega
  · cases hx
theorem span_sh {p n : Int} {l : List (List Int)} : ShP (spanS p n l) := by
  unfold spanS
  split
  · rename_i h
    have := redL_length (p := p) (R := l.length) (f := rowsF l) n.toNat
    have hn := h.2.1
    refine ⟨by simp only [basL, rowL_length]; omega, fun x hx => ?_⟩
    simp only [basL, rowL, List.mem_map, List.mem_range] at hx
    obtain ⟨i, hi, rfl⟩ := hx
    rw [mkv_length]
    omega
  · exact ⟨Nat.zero_le _, fun x hx => by cases hx⟩
theorem l5Space_ok {w1 : World} {M1 : List Nat} {H1 : List HE} {w : World} {M' : List Nat} {u : Value} {b i : Nat} {h : Int} (p n : Int) (hl : Lent M1 w1 (cu u b i h) H1 M' w) (hc : CodeF w1 M1 u) (hi : i ≤ vlen u) (hn : n ≤ 1000) :
    DoesB Tryz.prog 59 [cuV b, iV p, iV n] w M' (Gcu u b GivesAs) := by
  have hc2 := lent_code hl hc
  refine fnb_lent Tryz.func59 rfl Tryz.ntmps59 rfl hl ?_
  refine c_seq ?_
  refine c_region ?_
  refine m_alloc tabs rfl rfl (fun b6 hb6 => ?_)
  refine c_nil (x_then ?_)
  repeat' (first | (show oL; first | refine sMv rfl rfl ?_ | refine sAs rfl rfl ?_ | refine sFd tabs rfl rfl rfl rfl ?_ | (show oA (.load _ _); first | refine sLd 0 tabs rfl rfl rfl rfl rfl ?_ | refine sLb 0 tabs rfl rfl rfl rfl rfl ?_ | refine sLb 1 tabs rfl rfl rfl rfl rfl ?_) | (show oA (.binOp _ _ _ _ _); refine st_y (y_gtr rfl rfl) rfl ?_) | (show oA (.call _); first | (refine m_callL 1 (ent_of Tryz.func56 kr rfl) rfl rfl rfl (fun w M' hl => l5Vectors_ok p n hl hc2 hi hn) ?_; rintro v H' ⟨i, ch, _, hi, rfl, rs, ar, cr, rfl, hrs, rfl⟩) | (refine m_call (ent_of Tryz.func19 kr rfl) rfl rfl (fun w c => spec_SpanOf_ok (p := p) (n := n) (l := rs) (c.own_rd (i := 1) rfl)) ?_; rintro v H' ⟨asp, csp, rfl, hss, rfl⟩) | (refine m_callL 2 (ent_of Tryz.func57 kr rfl) rfl rfl rfl (fun w M' hl => l1Once_ok 14 hl hc2 hi) ?_; rintro v H' ⟨i, ch, _, hi, rfl, (_ | _), rfl, rfl⟩) | refine sLn tabs rfl rfl rfl ?_) | (show oA (.extract _ _); refine st_y (y_ext rfl rfl) rfl ?_) | (show oA (.pick _ _ _); first | refine st_y (y_pickt rfl aO rfl) rfl ?_ | refine st_y (y_pickf rfl aO rfl) rfl ?_ | refine st_y (y_pick rfl rfl rfl) rfl ?_) | (show oA (.store _ _ _); first | refine m_storeb 0 tabs rfl rfl rfl rfl rfl rfl rfl ?_ | refine m_storeb 4 tabs rfl rfl rfl rfl rfl rfl rfl ?_) | (show oA (.alloc _); refine m_alloc tabs rfl rfl (fun b9 hb9 => ?_)) | refine st_gn rfl rfl rfl ?_ | refine st_gdy rfl rfl aO ?_ | refine st_gdn rfl rfl aO rfl ?_ | refine st_gd rfl rfl (fun h => ?_) (fun h => ?_)) | refine xNt ?_ | (show oC; first | refine c_seq ?_ | refine c_region ?_ | refine c_skip (x_then ?_) | refine c_ret ?_ | refine c_true rfl ?_ | refine c_false rfl ?_))
  · exact x_ret1 Tryz.results59 (res_cellb 4 tabs rfl rfl rfl rfl) (fun w' c' => ⟨_, _, rfl, ⟨i, ch, _, hi, rfl, spanS p n rs, asp, csp, rfl, span_sh, rfl⟩, c'.sel [0, 2] rfl⟩)
  · have hpos : 0 < (spanS p n rs).2.length := by omega
    have hrow := span_row (p := p) (n := n) (l := rs)
    have hsh := span_sh (p := p) (n := n) (l := rs)
    generalize spanS p n rs = S at *
    obtain ⟨sn, sl⟩ := S
    cases sl with
    | nil => simp at hpos
    | cons x rest =>
      have hx := hrow x List.mem_cons_self
      simp only at hss hpos ⊢
      refine AT.sel [2, 0, 1, 4] rfl ?_
      refine AT.opn 0 rfl (fun us hus => ?_)
      cases us with
      | nil => simp [rowT] at hus
      | cons u0 us =>
        refine AT.cls (C' := Hp M' w [.own (iT x) u0, .own (.s 43 1 ((u0 :: us).map T.c)) (.slice asp (rest.length + 1) csp), .ownL (rest.flatMap rowT) us, cu u b i ch, .blk b9 #[iV sn, .slice asp (rest.length + 1) csp] 26, .blk b6 #[iV 0, .slice none 0 0] 26]) (fun w' c' => ?_) ?_
        · have h1 := (c'.front (i := 1) rfl).partE (q := 0) (t := iT x) (u := u0) rfl rfl
          exact h1.sel [0, 3, 2, 4, 5, 6] rfl
        refine AT.fact (own_sl 0 rfl) (fun hsl => ?_)
        obtain ⟨a0, c0, rfl, hs0⟩ := hsl
        refine c_all (Hp M' w [.own (.s 43 1 ((.slice a0 x.length c0 :: us).map T.c)) (.slice asp (rest.length + 1) csp), .blk b9 #[iV sn, .slice asp (rest.length + 1) csp] 26]) kr (fun _ c => Hp.drew c) ?_
        refine h_take 0 rfl kr kr kr (by exact y_field tabs rfl rfl rfl) rfl sS ?_
        refine h_take 1 rfl kr kr kr (by exact y_load tabs rfl rfl (hc_blk 1 rfl rfl)) rfl sS ?_
        refine h_take 2 rfl kr kr kr (by exact y_ix1 tabs (j := 0) rfl rfl rfl hss rfl hpos) rfl sS ?_
        refine h_take 3 rfl kr kr kr (by exact y_load tabs rfl rfl (hc_nm 0 rfl rfl)) rfl sS ?_
        refine h_take 4 rfl kr kr kr (by exact y_move rfl) rfl sS ?_
        refine h_only 5 rfl kr ?_
        first | (refine m_buildi tabs [0, 1, 2, 5] rfl rfl rfl rfl rfl rfl rfl (fun g hg => ?_)) | (refine m_callL 4 (ent_of Tryz.func49 kr rfl) rfl rfl rfl (fun w M' hl => l1PickInt_ok hl hc2 hi (hl.own 0 rfl) (by decide)) ?_; rintro v H' ⟨i, ch, _, hi, rfl, q, rfl, hq, rfl⟩) | (refine m_storeo 2 (j := 0) tabs rfl rfl rfl rfl hx ?_)
        refine c_nil (x_one (h_keep sS ?_))
        refine h_only 6 rfl kr ?_
        first | (refine m_buildi tabs [0, 1, 2, 5] rfl rfl rfl rfl rfl rfl rfl (fun g hg => ?_)) | (refine m_callL 4 (ent_of Tryz.func49 kr rfl) rfl rfl rfl (fun w M' hl => l1PickInt_ok hl hc2 hi (hl.own 0 rfl) (by decide)) ?_; rintro v H' ⟨i, ch, _, hi, rfl, q, rfl, hq, rfl⟩) | (refine m_storeo 2 (j := 0) tabs rfl rfl rfl rfl hx ?_)
        refine c_nil (x_one (h_keep sS ?_))
        refine h_take 7 rfl kr kr kr (by exact y_ix1 tabs (j := 0) rfl rfl rfl hs0 rfl hx) rfl sS ?_
        refine h_only 8 rfl kr ?_
        first | (refine m_buildi tabs [0, 1, 2, 5] rfl rfl rfl rfl rfl rfl rfl (fun g hg => ?_)) | (refine m_callL 4 (ent_of Tryz.func49 kr rfl) rfl rfl rfl (fun w M' hl => l1PickInt_ok hl hc2 hi (hl.own 0 rfl) (by decide)) ?_; rintro v H' ⟨i, ch, _, hi, rfl, q, rfl, hq, rfl⟩) | (refine m_storeo 2 (j := 0) tabs rfl rfl rfl rfl hx ?_)
        refine c_nil (x_one (h_keep sS ?_))
        refine h_end kr ?_
        repeat' (first | (show oL; first | refine sLb 5 tabs rfl rfl rfl rfl rfl ?_ | (show oA (.store _ _ _); refine m_storeb 6 tabs rfl rfl rfl rfl rfl rfl rfl ?_)) | refine xNt ?_ | (show oC; first | refine c_seq ?_ | refine c_region ?_ | refine c_ret ?_) | (show AT _ _ _ _; refine x_then ?_))
        exact x_ret1 Tryz.results59 (res_cellb 6 tabs rfl rfl rfl rfl) (fun w' c' => ⟨_, _, rfl, ⟨i, ch, _, hi, rfl, (sn, x.set 0 q :: rest), asp, csp, rfl, ⟨hsh.1, fun y hy => (by
          rcases List.mem_cons.1 hy with e | hy
          · rw [e, List.length_set]; exact hsh.2 x List.mem_cons_self
          · exact hsh.2 y (List.mem_cons_of_mem _ hy))⟩, rfl⟩, by
          have h := ((c'.sel [2, 4, 3, 0] rfl).consL).swap.cls.swap
          exact h⟩)
  all_goals exact x_ret1 Tryz.results59 (res_cellb 4 tabs rfl rfl rfl rfl) (fun w' c' => ⟨_, _, rfl, ⟨i, ch, _, hi, rfl, spanS p n rs, asp, csp, rfl, span_sh, rfl⟩, c'.sel [2, 1] rfl⟩)
end Go.Proofs.YtcplmeajmpkpkaaGreat

namespace Go.Proofs.YtcplmeajmpkpkaaGreat
open Go.Lg Go.Proofs Go.RowKit
attribute [local irreducible] Code.wp wpList bodyPost Exit.then Exit.inBlock Hp Again Calls Y AT ResV QT Qn QI wpAny wpAnyQ
set_option maxRecDepth 20000
set_option maxHeartbeats 4000000

def GivesPSS (v : Value) (H : List HE) : Prop := ∃ (p : Int) (s : Sp) (a : Option Addr) (c : Nat) (s' : Sp) (a' : Option Addr) (c' : Nat), v = .tuple #[iV p, .agg #[iV s.1, .slice a s.2.length c], .agg #[iV s'.1, .slice a' s'.2.length c']] ∧ H = [.own (rowsT 43 s.2) (.slice a s.2.length c), .own (rowsT 43 s'.2) (.slice a' s'.2.length c')]
def GivesPSSb (v : Value) (H : List HE) : Prop := ∃ (p : Int) (s : Sp) (a : Option Addr) (c : Nat) (s' : Sp) (a' : Option Addr) (c' : Nat), v = .tuple #[iV p, .agg #[iV s.1, .slice a s.2.length c], .agg #[iV s'.1, .slice a' s'.2.length c']] ∧ ShP s ∧ ShP s' ∧ H = [.own (rowsT 43 s.2) (.slice a s.2.length c), .own (rowsT 43 s'.2) (.slice a' s'.2.length c')]
theorem l5Two_ok {w : World} {u : Value} (hc : CodeF w [] u) : Does Tryz.prog 34 [u] w GivesPSSb := by
  refine fn_enter Tryz.func34 rfl Tryz.ntmps34 rfl ?_
  refine c_seq ?_
  refine c_region ?_
  refine sAs rfl rfl ?_
  refine m_alloc tabs rfl rfl (fun b3 hb3 => ?_)
  refine m_alloc tabs rfl rfl (fun b4 hb4 => ?_)
  refine c_nil (x_then ?_)
  repeat' (first | (show oL; first | refine sMv rfl rfl ?_ | refine sAs rfl rfl ?_ | (show oA (.call _); first | (refine m_call (ent_of Tryz.func48 kr rfl) rfl rfl (fun w c => l1New_ok (hp_code c hc)) ?_; rintro v H' ⟨b, ch, rfl, rfl⟩) | (refine m_callL 0 (ent_of Tryz.func55 kr rfl) rfl rfl rfl (fun w M' hl => l2Prime_ok hl hc (Nat.zero_le _)) ?_; rintro v H' ⟨i, ch, _, hi, rfl, p, rfl, hp, rfl⟩) | (refine m_callL 0 (ent_of Tryz.func50 kr rfl) rfl rfl rfl (fun w M' hl => l1BelowN_ok 5 (by decide) hl hc hi) ?_; rintro v H' ⟨i, ch, _, hi, rfl, n, rfl, hn, rfl⟩) | (refine m_callL 0 (ent_of Tryz.func59 kr rfl) rfl rfl rfl (fun w M' hl => l5Space_ok p n hl hc hi om) ?_; rintro v H' ⟨i, ch, _, hi, rfl, s, a, c, rfl, hsh, rfl⟩)) | (show oA (.store _ _ _); refine m_storeb 0 tabs rfl rfl rfl rfl rfl rfl rfl ?_) | (show oA (.alloc _); refine m_alloc tabs rfl rfl (fun b8 hb8 => ?_))) | refine xNt ?_ | (show oC; first | refine c_seq ?_ | refine c_region ?_))
  refine c_all (Hp [] w [.blk b8 #[iV s.1, .slice a s.2.length c] 26]) kr (fun _ c => Hp.drew c) ?_
  refine h_take 0 rfl kr kr kr (by exact y_move rfl) rfl sS ?_
  refine h_take 1 rfl kr kr kr (by first | exact y_loadb 0 tabs rfl rfl rfl rfl | exact y_loadb 0 tabs rfl rfl rfl rfl) rfl sS ?_
  refine h_take 2 rfl kr kr kr (by exact y_move rfl) rfl sS ?_
  refine h_take 3 rfl kr kr kr (by exact y_move rfl) rfl sS ?_
  refine h_take 4 rfl kr kr kr (by exact y_move rfl) rfl sS ?_
  refine h_only 5 rfl kr ?_
  first | (refine m_callL 1 (ent_of Tryz.func59 kr rfl) rfl rfl rfl (fun w M' hl => l5Space_ok p n hl hc hi om) ?_; rintro v H' ⟨i, ch, _, hi, rfl, s', a', c', rfl, hsh', rfl⟩) | (refine m_storeb 4 tabs rfl rfl rfl rfl rfl rfl rfl ?_) | (refine m_storeb 5 tabs rfl rfl rfl rfl rfl rfl rfl ?_) | (refine m_storeb 4 tabs rfl rfl rfl rfl rfl rfl rfl ?_)
  refine c_nil (x_one (h_keep sS ?_))
  refine h_take 6 rfl kr kr kr (by exact y_assign rfl) rfl sS ?_
  refine h_only 7 rfl kr ?_
  first | (refine m_callL 1 (ent_of Tryz.func59 kr rfl) rfl rfl rfl (fun w M' hl => l5Space_ok p n hl hc hi om) ?_; rintro v H' ⟨i, ch, _, hi, rfl, s', a', c', rfl, hsh', rfl⟩) | (refine m_storeb 4 tabs rfl rfl rfl rfl rfl rfl rfl ?_) | (refine m_storeb 5 tabs rfl rfl rfl rfl rfl rfl rfl ?_) | (refine m_storeb 4 tabs rfl rfl rfl rfl rfl rfl rfl ?_)
  refine c_nil (x_one (h_keep sS ?_))
  refine h_only 8 rfl kr ?_
  first | (refine m_callL 1 (ent_of Tryz.func59 kr rfl) rfl rfl rfl (fun w M' hl => l5Space_ok p n hl hc hi om) ?_; rintro v H' ⟨i, ch, _, hi, rfl, s', a', c', rfl, hsh', rfl⟩) | (refine m_storeb 4 tabs rfl rfl rfl rfl rfl rfl rfl ?_) | (refine m_storeb 5 tabs rfl rfl rfl rfl rfl rfl rfl ?_) | (refine m_storeb 4 tabs rfl rfl rfl rfl rfl rfl rfl ?_)
  refine c_nil (x_one (h_keep sS ?_))
  refine h_end kr ?_
  repeat' (first | (show oC; refine c_ret ?_) | (show AT _ _ _ _; refine x_then ?_))
  exact x_ret3 Tryz.results34 (res_tmp rfl) (res_cellb 5 tabs rfl rfl rfl rfl) (res_cellb 4 tabs rfl rfl rfl rfl) (fun w9 k9 => ⟨_, _, rfl, ⟨p, s, a, c, s', a', c', rfl, hsh, hsh', rfl⟩, k9.sel [3, 1] rfl⟩)
theorem DrawMeetSpaces_ok {w : World} {u : Value} (hc : CodeF w [] u) : Does Tryz.prog 5 [u] w GivesPSS := by
  refine fn_enter Tryz.func5 rfl Tryz.ntmps5 rfl ?_
  refine c_seq ?_
  refine c_region ?_
  refine sAs rfl rfl ?_
  refine m_alloc tabs rfl rfl (fun b3 hb3 => ?_)
  refine m_alloc tabs rfl rfl (fun b4 hb4 => ?_)
  refine c_nil (x_then ?_)
  refine c_seq ?_
  refine c_region ?_
  refine sMv rfl rfl ?_
  refine m_call (ent_of Tryz.func34 kr rfl) rfl rfl (fun w c => l5Two_ok (hp_code c hc)) ?_
  rintro v H' ⟨p, s, a, c, s', a', c', rfl, hsh, hsh', rfl⟩
  refine sMv rfl rfl ?_
  refine st_y (y_ext rfl rfl) rfl ?_
  refine st_y (y_ext rfl rfl) rfl ?_
  refine st_y (y_ext rfl rfl) rfl ?_
  refine m_alloc tabs rfl rfl (fun b6 hb6 => ?_)
  refine m_alloc tabs rfl rfl (fun b7 hb7 => ?_)
  repeat' (first | (show oL; first | refine sAs rfl rfl ?_ | (show oA (.store _ _ _); first | refine m_storeb 1 tabs rfl rfl rfl rfl rfl rfl rfl ?_ | refine m_storeb 0 tabs rfl rfl rfl rfl rfl rfl rfl ?_)) | refine xNt ?_ | (show oC; refine c_seq ?_))
  refine c_all (Hp [] w [.blk b7 #[iV s'.1, .slice a' s'.2.length c'] 26, .blk b6 #[iV s.1, .slice a s.2.length c] 26]) kr (fun _ c => Hp.drew c) ?_
  refine h_take 0 rfl kr kr kr (by exact y_move rfl) rfl sS ?_
  refine h_take 1 rfl kr kr kr (by first | exact y_loadb 1 tabs rfl rfl rfl rfl | exact y_loadb 1 tabs rfl rfl rfl rfl) rfl sS ?_
  refine h_take 2 rfl kr kr kr (by first | exact y_loadb 0 tabs rfl rfl rfl rfl | exact y_loadb 0 tabs rfl rfl rfl rfl) rfl sS ?_
  refine h_take 3 rfl kr kr kr (by exact y_assign rfl) rfl sS ?_
  refine h_only 4 rfl kr ?_
  first | (refine m_storeb 4 tabs rfl rfl rfl rfl rfl rfl rfl ?_) | (refine m_storeb 5 tabs rfl rfl rfl rfl rfl rfl rfl ?_) | (refine m_storeb 4 tabs rfl rfl rfl rfl rfl rfl rfl ?_)
  refine c_nil (x_one (h_keep sS ?_))
  refine h_only 5 rfl kr ?_
  first | (refine m_storeb 4 tabs rfl rfl rfl rfl rfl rfl rfl ?_) | (refine m_storeb 5 tabs rfl rfl rfl rfl rfl rfl rfl ?_) | (refine m_storeb 4 tabs rfl rfl rfl rfl rfl rfl rfl ?_)
  refine c_nil (x_one (h_keep sS ?_))
  refine h_end kr ?_
  repeat' (first | (show oC; refine c_ret ?_) | (show AT _ _ _ _; refine x_then ?_))
  exact x_ret3 Tryz.results5 (res_tmp rfl) (res_cellb 5 tabs rfl rfl rfl rfl) (res_cellb 4 tabs rfl rfl rfl rfl) (fun w9 k9 => ⟨_, _, rfl, ⟨p, s, a, c, s', a', c', rfl, rfl⟩, k9.sel [2, 3] rfl⟩)
theorem DrawIsSpace_ok {w : World} {u : Value} (hc : CodeF w [] u) : Does Tryz.prog 26 [u] w (fun v H => ∃ (p : Int) (s : Sp) (a : Option Addr) (c : Nat), v = .tuple #[iV p, .agg #[iV s.1, .slice a s.2.length c]] ∧ H = [.own (rowsT 43 s.2) (.slice a s.2.length c)]) := by
  refine fn_enter Tryz.func26 rfl Tryz.ntmps26 rfl ?_
  refine c_seq ?_
  refine c_region ?_
  refine sAs rfl rfl ?_
  refine m_alloc tabs rfl rfl (fun b3 hb3 => ?_)
  refine c_nil (x_then ?_)
  refine c_seq ?_
  refine c_region ?_
  refine sMv rfl rfl ?_
  refine m_call (ent_of Tryz.func34 kr rfl) rfl rfl (fun w c => l5Two_ok (hp_code c hc)) ?_
  rintro v H' ⟨p, s, a, c, s', a', c', rfl, hsh, hsh', rfl⟩
  refine sMv rfl rfl ?_
  refine st_y (y_ext rfl rfl) rfl ?_
  refine st_y (y_ext rfl rfl) rfl ?_
  refine st_y (y_ext rfl rfl) rfl ?_
  refine m_alloc tabs rfl rfl (fun b6 hb6 => ?_)
  refine m_alloc tabs rfl rfl (fun b7 hb7 => ?_)
  repeat' (first | (show oL; first | refine sAs rfl rfl ?_ | (show oA (.store _ _ _); first | refine m_storeb 1 tabs rfl rfl rfl rfl rfl rfl rfl ?_ | refine m_storeb 0 tabs rfl rfl rfl rfl rfl rfl rfl ?_)) | refine xNt ?_ | (show oC; refine c_seq ?_))
  refine c_all (Hp [] w [.blk b6 #[iV s.1, .slice a s.2.length c] 26]) kr (fun _ c => Hp.drew c) ?_
  refine h_take 0 rfl kr kr kr (by exact y_move rfl) rfl sS ?_
  refine h_take 1 rfl kr kr kr (by first | exact y_loadb 0 tabs rfl rfl rfl rfl | exact y_loadb 0 tabs rfl rfl rfl rfl) rfl sS ?_
  refine h_take 2 rfl kr kr kr (by exact y_assign rfl) rfl sS ?_
  refine h_only 3 rfl kr ?_
  first | (refine m_storeb 4 tabs rfl rfl rfl rfl rfl rfl rfl ?_) | (refine m_storeb 4 tabs rfl rfl rfl rfl rfl rfl rfl ?_)
  refine c_nil (x_one (h_keep sS ?_))
  refine h_end kr ?_
  repeat' (first | (show oC; refine c_ret ?_) | (show AT _ _ _ _; refine x_then ?_))
  exact x_ret2 Tryz.results26 (res_tmp rfl) (res_cellb 4 tabs rfl rfl rfl rfl) (fun w' c' => ⟨_, _, rfl, ⟨p, s, a, c, rfl, rfl⟩, c'.sel [2] rfl⟩)
theorem l5Numbers_ok {w : World} {u : Value} (hc : CodeF w [] u) : Does Tryz.prog 66 [u] w (fun v H => ∃ p n k : Int, v = .tuple #[iV p, iV n, iV k] ∧ H = []) := by
  refine fn_enter Tryz.func66 rfl Tryz.ntmps66 rfl ?_
  repeat' (first | (show oL; first | refine sMv rfl rfl ?_ | refine sAs rfl rfl ?_ | (show oA (.binOp _ _ _ _ _); refine st_y (y_sub rfl rfl om) rfl ?_) | (show oA (.call _); first | (refine m_call (ent_of Tryz.func48 kr rfl) rfl rfl (fun w c => l1New_ok (hp_code c hc)) ?_; rintro v H' ⟨b, ch, rfl, rfl⟩) | (refine m_callL 0 (ent_of Tryz.func55 kr rfl) rfl rfl rfl (fun w M' hl => l2Prime_ok hl hc (Nat.zero_le _)) ?_; rintro v H' ⟨i, ch, _, hi, rfl, p, rfl, hp, rfl⟩) | (refine m_callL 0 (ent_of Tryz.func50 kr rfl) rfl rfl rfl (fun w M' hl => l1BelowN_ok 6 (by decide) hl hc hi) ?_; rintro v H' ⟨i, ch, _, hi, rfl, n, rfl, hn, rfl⟩))) | refine xNt ?_ | (show oC; first | refine c_seq ?_ | refine c_region ?_ | refine c_ret ?_))
  exact x_ret3 Tryz.results66 (res_tmp rfl) (res_tmp rfl) (res_tmp rfl) (fun w' c' => ⟨_, _, rfl, ⟨_, _, _, rfl, rfl⟩, c'.sub (List.nil_sublist _)⟩)
theorem DrawCountSpaces_ok {w : World} {u : Value} (hc : CodeF w [] u) : Does Tryz.prog 27 [u] w (fun v H => ∃ p n k : Int, v = .tuple #[iV p, iV n, iV k] ∧ H = []) := by
  refine fn_enter Tryz.func27 rfl Tryz.ntmps27 rfl ?_
  repeat' (first | (show oL; first | refine sMv rfl rfl ?_ | refine sAs rfl rfl ?_ | (show oA (.call _); (refine m_call (ent_of Tryz.func66 kr rfl) rfl rfl (fun w c => l5Numbers_ok (hp_code c hc)) ?_; rintro v H' ⟨p, n, k, rfl, rfl⟩)) | (show oA (.extract _ _); refine st_y (y_ext rfl rfl) rfl ?_)) | refine xNt ?_ | (show oC; first | refine c_seq ?_ | refine c_region ?_ | refine c_ret ?_))
  exact x_ret3 Tryz.results27 (res_tmp rfl) (res_tmp rfl) (res_tmp rfl) (fun w' c' => ⟨_, _, rfl, ⟨_, _, _, rfl, rfl⟩, c'⟩)
theorem DrawSpacesOf_ok {w : World} {u : Value} (hc : CodeF w [] u) : Does Tryz.prog 13 [u] w (fun v H => ∃ p n k : Int, v = .tuple #[iV p, iV n, iV k] ∧ SmP p n k ∧ (-100 ≤ n ∧ n ≤ 100 ∧ -100 ≤ k ∧ k ≤ 100) ∧ H = []) := by
  refine fn_enter Tryz.func13 rfl Tryz.ntmps13 rfl ?_
  repeat' (first | (show oL; first | refine sMv rfl rfl ?_ | refine sAs rfl rfl ?_ | (show oA (.binOp _ _ _ _ _); refine st_y (y_sub rfl rfl om) rfl ?_) | (show oA (.call _); first | (refine m_call (ent_of Tryz.func48 kr rfl) rfl rfl (fun w c => l1New_ok (hp_code c hc)) ?_; rintro v H' ⟨b, ch, rfl, rfl⟩) | (refine m_callL 1 (ent_of Tryz.func49 kr rfl) rfl rfl rfl (fun w M' hl => l1PickInt_ok hl hc (Nat.zero_le _) (hl.own 0 rfl) (by decide)) ?_; rintro v H' ⟨i, ch, _, hi, rfl, p, rfl, hp, rfl⟩) | (refine m_callL 0 (ent_of Tryz.func50 kr rfl) rfl rfl rfl (fun w M' hl => l1BelowN_ok 4 (by decide) hl hc hi) ?_; rintro v H' ⟨i, ch, _, hi, rfl, n, rfl, hn, rfl⟩) | (refine m_callL 0 (ent_of Tryz.func50 kr rfl) rfl rfl rfl (fun w M' hl => l1BelowN_ok 5 (by decide) hl hc hi) ?_; rintro v H' ⟨i, ch, _, hi, rfl, k, rfl, hk, rfl⟩)) | (show oA (.buildSlice _ _ _); refine m_buildi tabs [2, 3, 2, 4] rfl rfl rfl rfl rfl rfl rfl (fun g hg => ?_))) | refine xNt ?_ | (show oC; first | refine c_seq ?_ | refine c_region ?_ | refine c_ret ?_))
  simp only [List.mem_cons, List.not_mem_nil, or_false] at hp
  exact x_ret3 Tryz.results13 (res_tmp rfl) (res_tmp rfl) (res_tmp rfl) (fun w' c' => ⟨_, _, rfl, ⟨_, _, _, rfl, fun h => ⟨by have := h.1; unfold FieldP at this; omega, by omega⟩, by omega, rfl⟩, c'.sub (List.nil_sublist _)⟩)
theorem DrawSpanOf_ok {w : World} {u : Value} (hc : CodeF w [] u) : Does Tryz.prog 17 [u] w (fun v H => ∃ (p n : Int) (rs : List (List Int)) (a : Option Addr) (c : Nat), v = .tuple #[iV p, iV n, .slice a rs.length c] ∧ H = [.own (rowsT 43 rs) (.slice a rs.length c)]) := by
  refine fn_enter Tryz.func17 rfl Tryz.ntmps17 rfl ?_
  repeat' (first | (show oL; first | refine sMv rfl rfl ?_ | refine sAs rfl rfl ?_ | refine sAd rfl rfl om rfl ?_ | (show oA (.call _); first | (refine m_call (ent_of Tryz.func48 kr rfl) rfl rfl (fun w c => l1New_ok (hp_code c hc)) ?_; rintro v H' ⟨b, ch, rfl, rfl⟩) | (refine m_callL 0 (ent_of Tryz.func55 kr rfl) rfl rfl rfl (fun w M' hl => l2Prime_ok hl hc (Nat.zero_le _)) ?_; rintro v H' ⟨i, ch, _, hi, rfl, p, rfl, hp, rfl⟩) | (refine m_callL 0 (ent_of Tryz.func50 kr rfl) rfl rfl rfl (fun w M' hl => l1BelowN_ok 5 (by decide) hl hc hi) ?_; rintro v H' ⟨i, ch, _, hi, rfl, n, rfl, hn, rfl⟩) | (refine m_callL 0 (ent_of Tryz.func56 kr rfl) rfl rfl rfl (fun w M' hl => l5Vectors_ok p n hl hc hi om) ?_; rintro v H' ⟨i, ch, _, hi, rfl, rs, a, c, rfl, hrs, rfl⟩) | (refine m_callL 0 (ent_of Tryz.func57 kr rfl) rfl rfl rfl (fun w M' hl => l1Once_ok 14 hl hc hi) ?_; rintro v H' ⟨i, ch, _, hi, rfl, (_ | _), rfl, rfl⟩) | (refine m_callL 1 (ent_of Tryz.func49 kr rfl) rfl rfl rfl (fun w M' hl => l1PickInt_ok hl hc hi (hl.own 0 rfl) (by simp)) ?_; rintro v H' ⟨i, ch, _, hi, rfl, q, rfl, hq, rfl⟩)) | (show oA (.buildSlice _ _ _); refine m_buildi tabs [-1, 9, (n : Int) + 1] rfl rfl rfl rfl rfl rfl rfl (fun g hg => ?_))) | refine xNt ?_ | (show oC; first | refine c_seq ?_ | refine c_region ?_ | refine c_skip (x_then ?_) | refine c_ret ?_ | refine c_true rfl ?_ | refine c_false rfl ?_))
  · exact x_ret3 Tryz.results17 (res_tmp rfl) (res_tmp rfl) (res_tmp rfl) (fun w' c' => ⟨_, _, rfl, ⟨p, _, rs, a, c, rfl, rfl⟩, c'.sel [1] rfl⟩)
  · exact x_ret3 Tryz.results17 (res_tmp rfl) (res_tmp rfl) (res_tmp rfl) (fun w' c' => ⟨_, _, rfl, ⟨p, _, rs, a, c, rfl, rfl⟩, c'.sel [2] rfl⟩)
theorem DrawImageOfSpace_ok {w : World} {u : Value} (hc : CodeF w [] u) : Does Tryz.prog 21 [u] w (fun v H => ∃ (p : Int) (m : Mat) (a : Option Addr) (c : Nat) (s : Sp) (a' : Option Addr) (c' : Nat), v = .tuple #[iV p, .agg #[iV m.1, iV m.2.1, .slice a m.2.2.length c], .agg #[iV s.1, .slice a' s.2.length c']] ∧ H = [.own (iT m.2.2) (.slice a m.2.2.length c), .own (rowsT 43 s.2) (.slice a' s.2.length c')]) := by
  refine fn_enter Tryz.func21 rfl Tryz.ntmps21 rfl ?_
  refine c_seq ?_
  refine c_region ?_
  refine sAs rfl rfl ?_
  refine m_alloc tabs rfl rfl (fun b3 hb3 => ?_)
  refine m_alloc tabs rfl rfl (fun b4 hb4 => ?_)
  refine c_nil (x_then ?_)
  repeat' (first | (show oL; first | refine sMv rfl rfl ?_ | refine sAs rfl rfl ?_ | (show oA (.call _); first | (refine m_call (ent_of Tryz.func48 kr rfl) rfl rfl (fun w c => l1New_ok (hp_code c hc)) ?_; rintro v H' ⟨b, ch, rfl, rfl⟩) | (refine m_callL 0 (ent_of Tryz.func55 kr rfl) rfl rfl rfl (fun w M' hl => l2Prime_ok hl hc (Nat.zero_le _)) ?_; rintro v H' ⟨i, ch, _, hi, rfl, p, rfl, hp, rfl⟩) | (refine m_callL 0 (ent_of Tryz.func61 kr rfl) rfl rfl rfl (fun w M' hl => l3Any_ok p hl hc hi) ?_; rintro v H' ⟨i, ch, _, hi, rfl, m, a, c, rfl, hm, rfl⟩)) | (show oA (.store _ _ _); refine m_storeb 0 tabs rfl rfl rfl rfl rfl rfl rfl ?_) | (show oA (.alloc _); refine m_alloc tabs rfl rfl (fun b7 hb7 => ?_))) | refine xNt ?_ | (show oC; first | refine c_seq ?_ | refine c_region ?_))
  refine c_all (Hp [] w [.blk b7 #[iV m.1, iV m.2.1, .slice a m.2.2.length c] 47]) kr (fun _ c => Hp.drew c) ?_
  refine h_take 0 rfl kr kr kr (by exact y_move rfl) rfl sS ?_
  refine h_take 1 rfl kr kr kr (by first | exact y_loadb 0 tabs rfl rfl rfl rfl | exact y_loadb 0 tabs rfl rfl rfl rfl) rfl sS ?_
  refine h_take 2 rfl kr kr kr (by exact y_move rfl) rfl sS ?_
  refine h_take 3 rfl kr kr kr (by exact y_move rfl) rfl sS ?_
  refine h_take 4 rfl kr kr kr (by exact y_field tabs rfl rfl rfl) rfl sS ?_
  refine h_take 5 rfl kr kr kr (by exact y_load tabs rfl rfl (hc_blk 0 rfl rfl)) rfl sS ?_
  refine h_take 6 rfl kr kr kr (by exact y_min rfl rfl) rfl sS ?_
  refine h_take 7 rfl kr kr kr (by exact y_max rfl rfl) rfl sS ?_
  refine h_only 8 rfl kr ?_
  first | (refine m_callL 1 (ent_of Tryz.func59 kr rfl) rfl rfl rfl (fun w M' hl => l5Space_ok p _ hl hc hi om) ?_; rintro v H' ⟨i, ch, _, hi, rfl, s, a', c', rfl, hsh, rfl⟩) | (refine m_storeb 4 tabs rfl rfl rfl rfl rfl rfl rfl ?_) | (refine m_storeb 5 tabs rfl rfl rfl rfl rfl rfl rfl ?_) | (refine m_storeb 4 tabs rfl rfl rfl rfl rfl rfl rfl ?_)
  refine c_nil (x_one (h_keep sS ?_))
  refine h_take 9 rfl kr kr kr (by exact y_assign rfl) rfl sS ?_
  refine h_only 10 rfl kr ?_
  first | (refine m_callL 1 (ent_of Tryz.func59 kr rfl) rfl rfl rfl (fun w M' hl => l5Space_ok p _ hl hc hi om) ?_; rintro v H' ⟨i, ch, _, hi, rfl, s, a', c', rfl, hsh, rfl⟩) | (refine m_storeb 4 tabs rfl rfl rfl rfl rfl rfl rfl ?_) | (refine m_storeb 5 tabs rfl rfl rfl rfl rfl rfl rfl ?_) | (refine m_storeb 4 tabs rfl rfl rfl rfl rfl rfl rfl ?_)
  refine c_nil (x_one (h_keep sS ?_))
  refine h_only 11 rfl kr ?_
  first | (refine m_callL 1 (ent_of Tryz.func59 kr rfl) rfl rfl rfl (fun w M' hl => l5Space_ok p _ hl hc hi om) ?_; rintro v H' ⟨i, ch, _, hi, rfl, s, a', c', rfl, hsh, rfl⟩) | (refine m_storeb 4 tabs rfl rfl rfl rfl rfl rfl rfl ?_) | (refine m_storeb 5 tabs rfl rfl rfl rfl rfl rfl rfl ?_) | (refine m_storeb 4 tabs rfl rfl rfl rfl rfl rfl rfl ?_)
  refine c_nil (x_one (h_keep sS ?_))
  refine h_end kr ?_
  repeat' (first | (show oC; refine c_ret ?_) | (show AT _ _ _ _; refine x_then ?_))
  exact x_ret3 Tryz.results21 (res_tmp rfl) (res_cellb 5 tabs rfl rfl rfl rfl) (res_cellb 4 tabs rfl rfl rfl rfl) (fun w9 k9 => ⟨_, _, rfl, ⟨p, m, a, c, s, a', c', rfl, rfl⟩, k9.sel [3, 1] rfl⟩)
theorem DrawIsWithin_ok {w : World} {u : Value} (hc : CodeF w [] u) : Does Tryz.prog 24 [u] w GivesPSS := by
  obtain ⟨N, au, cu', xs, rfl, hsu, _, hN, _⟩ := hc.open
  refine fn_enter Tryz.func24 rfl Tryz.ntmps24 rfl ?_
  refine c_seq ?_
  refine c_region ?_
  refine sAs rfl rfl ?_
  refine m_alloc tabs rfl rfl (fun b3 hb3 => ?_)
  refine m_alloc tabs rfl rfl (fun b4 hb4 => ?_)
  refine c_nil (x_then ?_)
  refine c_seq ?_
  refine c_region ?_
  refine sMv rfl rfl ?_
  refine m_call (ent_of Tryz.func34 kr rfl) rfl rfl (fun w c => l5Two_ok (hp_code c hc)) ?_
  rintro v H' ⟨p, s, a, c, s', a', c', rfl, hsh, hsh', rfl⟩
  refine sMv rfl rfl ?_
  refine st_y (y_ext rfl rfl) rfl ?_
  refine st_y (y_ext rfl rfl) rfl ?_
  refine st_y (y_ext rfl rfl) rfl ?_
  refine m_alloc tabs rfl rfl (fun b6 hb6 => ?_)
  refine m_alloc tabs rfl rfl (fun b7 hb7 => ?_)
  repeat' (first | (show oL; first | refine sMv rfl rfl ?_ | refine sAs rfl rfl ?_ | (show oA (.load _ _); first | refine sLb 0 tabs rfl rfl rfl rfl rfl ?_ | refine sLb 1 tabs rfl rfl rfl rfl rfl ?_) | (show oA (.binOp _ _ _ _ _); first | refine st_y (y_rem rfl rfl (by decide)) rfl ?_ | refine st_y (y_eql rfl rfl) rfl ?_) | (show oA (.call _); first | (refine m_call (ent_of Tryz.func7 kr rfl) rfl rfl (fun w k => spec_MeetSpaces_ok (p := p) (a := s) (b := s') (k.own_rd (i := 2) rfl) (k.own_rd (i := 3) rfl)) ?_; rintro v H' ⟨ax, cx, rfl, hsx, rfl⟩) | refine sLn tabs rfl rfl rfl ?_) | (show oA (.extract _ _); refine st_y (y_ext rfl rfl) rfl ?_) | (show oA (.pick _ _ _); first | refine st_y (y_pickt rfl aO rfl) rfl ?_ | refine st_y (y_pickf rfl aO rfl) rfl ?_) | (show oA (.store _ _ _); first | refine m_storeb 1 tabs rfl rfl rfl rfl rfl rfl rfl ?_ | refine m_storeb 0 tabs rfl rfl rfl rfl rfl rfl rfl ?_) | (show oA (.alloc _); refine m_alloc tabs rfl rfl (fun b8 hb8 => ?_)) | refine st_gdy rfl rfl aO ?_ | refine st_gdn rfl rfl aO rfl ?_ | refine st_gd rfl rfl (fun h => ?_) (fun h => ?_)) | refine xNt ?_ | (show oC; first | refine c_if rfl (fun hq => ?_) (fun hq => ?_) | refine c_seq ?_ | refine c_region ?_ | refine c_skip (x_then ?_) | refine c_false rfl ?_))
  · refine AT.sel [0, 2, 1, 5, 6, 7] rfl ?_
    refine c_all (Hp [] w [.blk b8 #[iV (meeS p s s').1, .slice ax (meeS p s s').2.length cx] 26, .blk b7 #[iV s'.1, .slice a' s'.2.length c'] 26]) kr (fun _ c => Hp.drew c) ?_
    refine h_take 0 rfl kr kr kr (by exact y_move rfl) rfl sS ?_
    refine h_take 1 rfl kr kr kr (by first | exact y_loadb 0 tabs rfl rfl rfl rfl | exact y_loadb 0 tabs rfl rfl rfl rfl) rfl sS ?_
    refine h_take 2 rfl kr kr kr (by first | exact y_loadb 1 tabs rfl rfl rfl rfl | exact y_loadb 1 tabs rfl rfl rfl rfl) rfl sS ?_
    refine h_take 3 rfl kr kr kr (by exact y_assign rfl) rfl sS ?_
    refine h_only 4 rfl kr ?_
    first | (refine m_storeb 4 tabs rfl rfl rfl rfl rfl rfl rfl ?_) | (refine m_storeb 5 tabs rfl rfl rfl rfl rfl rfl rfl ?_) | (refine m_storeb 4 tabs rfl rfl rfl rfl rfl rfl rfl ?_)
    refine c_nil (x_one (h_keep sS ?_))
    refine h_only 5 rfl kr ?_
    first | (refine m_storeb 4 tabs rfl rfl rfl rfl rfl rfl rfl ?_) | (refine m_storeb 5 tabs rfl rfl rfl rfl rfl rfl rfl ?_) | (refine m_storeb 4 tabs rfl rfl rfl rfl rfl rfl rfl ?_)
    refine c_nil (x_one (h_keep sS ?_))
    refine h_end kr ?_
    repeat' (first | (show oC; refine c_ret ?_) | (show AT _ _ _ _; first | refine x_then ?_ | refine x_then_ret ?_))
    exact x_ret3 Tryz.results24 (res_tmp rfl) (res_cellb 5 tabs rfl rfl rfl rfl) (res_cellb 4 tabs rfl rfl rfl rfl) (fun w9 k9 => ⟨_, _, rfl, ⟨p, meeS p s s', ax, cx, s', a', c', rfl, rfl⟩, k9.sel [2, 3] rfl⟩)
  · refine AT.sel [3, 2, 4, 5, 6, 7] rfl ?_
    refine c_all (Hp [] w [.blk b6 #[iV s.1, .slice a s.2.length c] 26, .blk b7 #[iV s'.1, .slice a' s'.2.length c'] 26]) kr (fun _ c => Hp.drew c) ?_
    refine h_take 0 rfl kr kr kr (by exact y_move rfl) rfl sS ?_
    refine h_take 1 rfl kr kr kr (by first | exact y_loadb 0 tabs rfl rfl rfl rfl | exact y_loadb 0 tabs rfl rfl rfl rfl) rfl sS ?_
    refine h_take 2 rfl kr kr kr (by first | exact y_loadb 1 tabs rfl rfl rfl rfl | exact y_loadb 1 tabs rfl rfl rfl rfl) rfl sS ?_
    refine h_take 3 rfl kr kr kr (by exact y_assign rfl) rfl sS ?_
    refine h_only 4 rfl kr ?_
    first | (refine m_storeb 4 tabs rfl rfl rfl rfl rfl rfl rfl ?_) | (refine m_storeb 5 tabs rfl rfl rfl rfl rfl rfl rfl ?_) | (refine m_storeb 4 tabs rfl rfl rfl rfl rfl rfl rfl ?_)
    refine c_nil (x_one (h_keep sS ?_))
    refine h_only 5 rfl kr ?_
    first | (refine m_storeb 4 tabs rfl rfl rfl rfl rfl rfl rfl ?_) | (refine m_storeb 5 tabs rfl rfl rfl rfl rfl rfl rfl ?_) | (refine m_storeb 4 tabs rfl rfl rfl rfl rfl rfl rfl ?_)
    refine c_nil (x_one (h_keep sS ?_))
    refine h_end kr ?_
    repeat' (first | (show oC; refine c_ret ?_) | (show AT _ _ _ _; refine x_then ?_))
    exact x_ret3 Tryz.results24 (res_tmp rfl) (res_cellb 5 tabs rfl rfl rfl rfl) (res_cellb 4 tabs rfl rfl rfl rfl) (fun w9 k9 => ⟨_, _, rfl, ⟨p, s, a, c, s', a', c', rfl, rfl⟩, k9.sel [2, 3] rfl⟩)
  · refine AT.sel [3, 2, 4, 5, 6, 7] rfl ?_
    refine c_all (Hp [] w [.blk b6 #[iV s.1, .slice a s.2.length c] 26, .blk b7 #[iV s'.1, .slice a' s'.2.length c'] 26]) kr (fun _ c => Hp.drew c) ?_
    refine h_take 0 rfl kr kr kr (by exact y_move rfl) rfl sS ?_
    refine h_take 1 rfl kr kr kr (by first | exact y_loadb 0 tabs rfl rfl rfl rfl | exact y_loadb 0 tabs rfl rfl rfl rfl) rfl sS ?_
    refine h_take 2 rfl kr kr kr (by first | exact y_loadb 1 tabs rfl rfl rfl rfl | exact y_loadb 1 tabs rfl rfl rfl rfl) rfl sS ?_
    refine h_take 3 rfl kr kr kr (by exact y_assign rfl) rfl sS ?_
    refine h_only 4 rfl kr ?_
    first | (refine m_storeb 4 tabs rfl rfl rfl rfl rfl rfl rfl ?_) | (refine m_storeb 5 tabs rfl rfl rfl rfl rfl rfl rfl ?_) | (refine m_storeb 4 tabs rfl rfl rfl rfl rfl rfl rfl ?_)
    refine c_nil (x_one (h_keep sS ?_))
    refine h_only 5 rfl kr ?_
    first | (refine m_storeb 4 tabs rfl rfl rfl rfl rfl rfl rfl ?_) | (refine m_storeb 5 tabs rfl rfl rfl rfl rfl rfl rfl ?_) | (refine m_storeb 4 tabs rfl rfl rfl rfl rfl rfl rfl ?_)
    refine c_nil (x_one (h_keep sS ?_))
    refine h_end kr ?_
    repeat' (first | (show oC; refine c_ret ?_) | (show AT _ _ _ _; refine x_then ?_))
    exact x_ret3 Tryz.results24 (res_tmp rfl) (res_cellb 5 tabs rfl rfl rfl rfl) (res_cellb 4 tabs rfl rfl rfl rfl) (fun w9 k9 => ⟨_, _, rfl, ⟨p, s, a, c, s', a', c', rfl, rfl⟩, k9.sel [2, 3] rfl⟩)
theorem DrawEqualSpaces_ok {w : World} {u : Value} (hc : CodeF w [] u) : Does Tryz.prog 25 [u] w (fun v H => ∃ (s : Sp) (a : Option Addr) (c : Nat) (s' : Sp) (a' : Option Addr) (c' : Nat), v = .tuple #[.agg #[iV s.1, .slice a s.2.length c], .agg #[iV s'.1, .slice a' s'.2.length c']] ∧ H = [.own (rowsT 43 s.2) (.slice a s.2.length c), .own (rowsT 43 s'.2) (.slice a' s'.2.length c')]) := by
  obtain ⟨N, au, cu', xs, rfl, hsu, _, hN, _⟩ := hc.open
  refine fn_enter Tryz.func25 rfl Tryz.ntmps25 rfl ?_
  refine c_seq ?_
  refine c_region ?_
  refine m_alloc tabs rfl rfl (fun b2 hb2 => ?_)
  refine m_alloc tabs rfl rfl (fun b3 hb3 => ?_)
  refine c_nil (x_then ?_)
  refine c_seq ?_
  refine c_region ?_
  refine sMv rfl rfl ?_
  refine m_call (ent_of Tryz.func34 kr rfl) rfl rfl (fun w c => l5Two_ok (hp_code c hc)) ?_
  rintro v H' ⟨p, s, a, c, s', a', c', rfl, hsh, hsh', rfl⟩
  refine sMv rfl rfl ?_
  refine st_y (y_ext rfl rfl) rfl ?_
  refine st_y (y_ext rfl rfl) rfl ?_
  refine st_y (y_ext rfl rfl) rfl ?_
  refine m_alloc tabs rfl rfl (fun b5 hb5 => ?_)
  refine m_alloc tabs rfl rfl (fun b6 hb6 => ?_)
  repeat' (first | (show oL; first | refine sMv rfl rfl ?_ | refine sAs rfl rfl ?_ | refine sFd tabs rfl rfl rfl rfl ?_ | refine sLd 1 tabs rfl rfl rfl rfl rfl ?_ | (show oA (.binOp _ _ _ _ _); first | refine st_y (y_rem rfl rfl (by decide)) rfl ?_ | refine st_y (y_eql rfl rfl) rfl ?_) | refine sLn tabs rfl rfl rfl ?_ | (show oA (.store _ _ _); first | refine m_storeb 1 tabs rfl rfl rfl rfl rfl rfl rfl ?_ | refine m_storeb 0 tabs rfl rfl rfl rfl rfl rfl rfl ?_) | (show oA (.alloc _); refine m_alloc tabs rfl rfl (fun b7 hb7 => ?_)) | (show oA (.build _ _); refine st_y (y_bld1 (bld_sp1 _) rfl) rfl ?_)) | refine xNt ?_ | (show oC; first | refine c_if rfl (fun hq => ?_) (fun hq => ?_) | refine c_seq ?_ | refine c_region ?_ | refine c_skip (x_then ?_) | refine c_block ?_))
  · refine AT.sel [3, 0, 2, 6, 5] rfl ?_
    refine AT.fact (rows_sl 0 rfl) (fun hsa => ?_)
    refine AT.opn 0 rfl (fun us hus => ?_)
    rw [rowT_map, List.length_map] at hus
    rw [rowT_map]
    refine c_loopH (α := Nat × Option Addr × Nat) [2, 3, 5, 7] (fun s9 => [(8, .int .i64 s9.1)]) (fun s9 => s9.1 ≤ s.2.length) (fun s9 => [.own (rowsT 43 (s.2.take s9.1)) (.slice s9.2.1 s9.1 s9.2.2), .blk b7 #[iV s.1, .slice s9.2.1 s9.1 s9.2.2] 26, .own (.s 43 1 (us.map T.c)) (.slice a s.2.length c), .ownL (s.2.map iT) us, .blk b5 #[iV s.1, .slice a s.2.length c] 26, .blk b2 #[iV 0, .slice none 0 0] 26, .blk b3 #[iV 0, .slice none 0 0] 26]) (fun s9 => s.2.length - s9.1) (0, none, 0) rfl sB ?_ ?_ ?_
    · exact Nat.zero_le _
    · exact fun w9 k9 => (k9.sel [2, 0, 1, 3, 4, 5] rfl).nilp _ _
    · rintro ⟨j, ax, cx⟩ hj
      simp only at hj ⊢
      by_cases hjn : j < s.2.length
      · obtain ⟨x, hx⟩ : ∃ x, s.2[j]? = some x := ⟨_, List.getElem?_eq_getElem hjn⟩
        obtain ⟨uk, huk⟩ : ∃ uk, us[j]? = some uk := ⟨_, List.getElem?_eq_getElem om⟩
        have hki : (s.2.map iT)[j]? = some (iT x) := by rw [List.getElem?_map, hx]; rfl
        refine AT.fact (fun w9 k9 => rd_sl (Hp.ownL_rd 3 rfl hki huk k9)) (fun hsu => ?_)
        obtain ⟨au, cu, rfl, hsu⟩ := hsu
        have htl : (s.2.take j).length = j := by rw [List.length_take]; omega
        have hxl := hsh.2 x (List.mem_of_getElem? hx)
        have hsl := hsh.1
        have etk : rowsT 43 (s.2.take (j + 1)) = .s 43 1 ((s.2.take j).flatMap rowT ++ (([] : List Value).map T.c ++ [iT x])) := by
          unfold rowsT
          rw [List.take_add_one, hx, List.flatMap_append]
          rfl
        repeat' (first | (show oL; first | refine sMv rfl rfl ?_ | refine sFd tabs rfl rfl rfl rfl ?_ | refine sLd 4 tabs rfl rfl rfl rfl rfl ?_ | refine sLs rfl rfl rfl ?_ | refine sLn tabs rfl rfl rfl ?_) | refine xNt ?_ | (show oC; first | refine c_seq ?_ | refine c_region ?_ | refine c_skip (x_then ?_) | refine c_block ?_ | refine c_ift rfl aO ?_))
        refine c_mixR (Hp [] w [.blk b7 #[iV s.1, .slice ax j cx] 26, .own (.s 43 1 (us.map T.c)) (.slice a s.2.length c), .blk b5 #[iV s.1, .slice a s.2.length c] 26]) 12 kr kr kr kr kr (fun _ c => Hp.drew c) ?_
        refine h_take 0 rfl kr kr kr (by exact y_field tabs rfl rfl rfl) rfl sS ?_
        refine h_take 1 rfl kr kr kr (by exact y_load tabs rfl rfl (hc_blk 0 rfl rfl)) rfl sS ?_
        refine h_take 3 rfl kr kr kr (by exact y_field tabs rfl rfl rfl) rfl sS ?_
        refine h_take 4 rfl kr kr kr (by exact y_load tabs rfl rfl (hc_blk 2 rfl rfl)) rfl sS ?_
        refine h_take 5 rfl kr kr kr (by exact y_move rfl) rfl sS ?_
        refine h_take 6 rfl kr kr kr (by exact y_ix1 tabs (j := j) rfl rfl rfl hsa rfl hjn) rfl sS ?_
        refine h_take 7 rfl kr kr kr (by exact y_load tabs rfl rfl (hc_nm 1 rfl huk)) rfl sS ?_
        refine h_only 2 rfl kr ?_
        first | (refine m_build0 tabs rfl rfl (fun g hg => ?_)) | (refine m_build1 tabs (us := [.slice a8 x.length c8]) rfl rfl rfl rfl (by decide) rfl (fun g9 hg9 => ?_)) | (refine m_dup 0 tabs rfl rfl rfl rfl rfl om (fun w9 k9 => Hp.ownL_rd 4 rfl hki huk k9) (fun a8 c8 hs8 => ?_)) | (refine m_push1 [] 0 0 tabs (m' := j) rfl rfl rfl rfl rfl rfl rfl (by rw [rowT_map, List.length_map, htl, Nat.mul_one]) (by rw [rowT_map, List.length_map, htl]; omega) (by decide) rfl rfl (fun a10 c10 => ?_))
        refine c_nil (x_one (h_keep sS ?_))
        refine h_only 8 rfl kr ?_
        first | (refine m_build0 tabs rfl rfl (fun g hg => ?_)) | (refine m_build1 tabs (us := [.slice a8 x.length c8]) rfl rfl rfl rfl (by decide) rfl (fun g9 hg9 => ?_)) | (refine m_dup 0 tabs rfl rfl rfl rfl rfl om (fun w9 k9 => Hp.ownL_rd 4 rfl hki huk k9) (fun a8 c8 hs8 => ?_)) | (refine m_push1 [] 0 0 tabs (m' := j) rfl rfl rfl rfl rfl rfl rfl (by rw [rowT_map, List.length_map, htl, Nat.mul_one]) (by rw [rowT_map, List.length_map, htl]; omega) (by decide) rfl rfl (fun a10 c10 => ?_))
        refine c_nil (x_one (h_keep sS ?_))
        refine h_only 9 rfl kr ?_
        first | (refine m_build0 tabs rfl rfl (fun g hg => ?_)) | (refine m_build1 tabs (us := [.slice a8 x.length c8]) rfl rfl rfl rfl (by decide) rfl (fun g9 hg9 => ?_)) | (refine m_dup 0 tabs rfl rfl rfl rfl rfl om (fun w9 k9 => Hp.ownL_rd 4 rfl hki huk k9) (fun a8 c8 hs8 => ?_)) | (refine m_push1 [] 0 0 tabs (m' := j) rfl rfl rfl rfl rfl rfl rfl (by rw [rowT_map, List.length_map, htl, Nat.mul_one]) (by rw [rowT_map, List.length_map, htl]; omega) (by decide) rfl rfl (fun a10 c10 => ?_))
        refine c_nil (x_one (h_keep sS ?_))
        refine h_only 10 rfl kr ?_
        first | (refine m_build0 tabs rfl rfl (fun g hg => ?_)) | (refine m_build1 tabs (us := [.slice a8 x.length c8]) rfl rfl rfl rfl (by decide) rfl (fun g9 hg9 => ?_)) | (refine m_dup 0 tabs rfl rfl rfl rfl rfl om (fun w9 k9 => Hp.ownL_rd 4 rfl hki huk k9) (fun a8 c8 hs8 => ?_)) | (refine m_push1 [] 0 0 tabs (m' := j) rfl rfl rfl rfl rfl rfl rfl (by rw [rowT_map, List.length_map, htl, Nat.mul_one]) (by rw [rowT_map, List.length_map, htl]; omega) (by decide) rfl rfl (fun a10 c10 => ?_))
        refine c_nil (x_one (h_keep sS ?_))
        refine h_take 11 rfl kr kr kr (by exact y_field tabs rfl rfl rfl) rfl sS ?_
        refine h_end kr ?_
        repeat' (first | (show oL; first | refine sMv rfl rfl ?_ | refine sAs rfl rfl ?_ | refine sAd rfl rfl om rfl ?_ | (show oA (.store _ _ _); refine m_storef 1 tabs rfl rfl rfl rfl rfl rfl ?_)) | (show oN; first | refine c_nil (x_then ?_) | refine c_nil ?_) | (show oC; refine c_region ?_) | (show AT _ _ _ _; first | refine x_then ?_ | refine x_blk ?_))
        refine x_nx (j + 1, a10, c10) sB (by simp only; omega) (fun w9 k9 => ?_) (by simp only; omega)
        simp only
        rw [etk]
        exact k9
      · have hje : j = s.2.length := by omega
        subst hje
        repeat' (first | (show oL; first | refine sMv rfl rfl ?_ | refine sFd tabs rfl rfl rfl rfl ?_ | refine sLd 4 tabs rfl rfl rfl rfl rfl ?_ | refine sLs rfl rfl rfl ?_ | refine sLn tabs rfl rfl rfl ?_) | refine xNt ?_ | (show oC; first | refine c_seq ?_ | refine c_region ?_ | refine c_exit ?_ | refine c_iff rfl nN ?_) | (show AT _ _ _ _; first | refine x_then ?_ | refine x_then_exit ?_ | refine x_blk_exit rfl ?_))
        refine c_all (Hp [] w [.blk b7 #[iV s.1, .slice ax s.2.length cx] 26, .blk b5 #[iV s.1, .slice a s.2.length c] 26]) kr (fun _ c => Hp.drew c) ?_
        refine h_take 0 rfl kr kr kr (by first | exact y_loadb 1 tabs rfl rfl rfl rfl | exact y_loadb 1 tabs rfl rfl rfl rfl) rfl sS ?_
        refine h_take 1 rfl kr kr kr (by first | exact y_loadb 0 tabs rfl rfl rfl rfl | exact y_loadb 0 tabs rfl rfl rfl rfl) rfl sS ?_
        refine h_only 2 rfl kr ?_
        first | (refine m_storeb 5 tabs rfl rfl rfl rfl rfl rfl rfl ?_) | (refine m_storeb 6 tabs rfl rfl rfl rfl rfl rfl rfl ?_)
        refine c_nil (x_one (h_keep sS ?_))
        refine h_only 3 rfl kr ?_
        first | (refine m_storeb 5 tabs rfl rfl rfl rfl rfl rfl rfl ?_) | (refine m_storeb 6 tabs rfl rfl rfl rfl rfl rfl rfl ?_)
        refine c_nil (x_one (h_keep sS ?_))
        refine h_end kr ?_
        repeat' (first | (show oC; refine c_ret ?_) | (show AT _ _ _ _; first | refine x_then ?_ | refine x_then_ret ?_))
        exact x_ret2 Tryz.results25 (res_cellb 5 tabs rfl rfl rfl rfl) (res_cellb 6 tabs rfl rfl rfl rfl) (fun w9 k9 => ⟨_, _, rfl, ⟨s, a, c, s, ax, cx, rfl, rfl⟩, by
          have h := (k9.sel [2, 3, 0] rfl).cls
          rw [List.take_length] at h
          have e : rowsT 43 s.2 = .s 43 1 (s.2.map iT) := by unfold rowsT; rw [rowT_map]
          rw [e] at h ⊢
          exact h⟩)
  · skip
    refine c_all (Hp [] w [.blk b6 #[iV s'.1, .slice a' s'.2.length c'] 26, .blk b5 #[iV s.1, .slice a s.2.length c] 26]) kr (fun _ c => Hp.drew c) ?_
    refine h_take 0 rfl kr kr kr (by first | exact y_loadb 1 tabs rfl rfl rfl rfl | exact y_loadb 1 tabs rfl rfl rfl rfl) rfl sS ?_
    refine h_take 1 rfl kr kr kr (by first | exact y_loadb 0 tabs rfl rfl rfl rfl | exact y_loadb 0 tabs rfl rfl rfl rfl) rfl sS ?_
    refine h_only 2 rfl kr ?_
    first | (refine m_storeb 4 tabs rfl rfl rfl rfl rfl rfl rfl ?_) | (refine m_storeb 5 tabs rfl rfl rfl rfl rfl rfl rfl ?_) | (refine m_storeb 4 tabs rfl rfl rfl rfl rfl rfl rfl ?_)
    refine c_nil (x_one (h_keep sS ?_))
    refine h_only 3 rfl kr ?_
    first | (refine m_storeb 4 tabs rfl rfl rfl rfl rfl rfl rfl ?_) | (refine m_storeb 5 tabs rfl rfl rfl rfl rfl rfl rfl ?_) | (refine m_storeb 4 tabs rfl rfl rfl rfl rfl rfl rfl ?_)
    refine c_nil (x_one (h_keep sS ?_))
    refine h_end kr ?_
    repeat' (first | (show oC; refine c_ret ?_) | (show AT _ _ _ _; refine x_then ?_))
    exact x_ret2 Tryz.results25 (res_cellb 5 tabs rfl rfl rfl rfl) (res_cellb 4 tabs rfl rfl rfl rfl) (fun w9 k9 => ⟨_, _, rfl, ⟨s, a, c, s', a', c', rfl, rfl⟩, k9.sel [2, 3] rfl⟩)
theorem DrawInSpace_ok {w : World} {u : Value} (hc : CodeF w [] u) : Does Tryz.prog 20 [u] w (fun v H => ∃ (p : Int) (s : Sp) (a : Option Addr) (c : Nat) (xs : List Int) (a' : Option Addr) (c' : Nat), v = .tuple #[iV p, .agg #[iV s.1, .slice a s.2.length c], .slice a' xs.length c'] ∧ H = [.own (rowsT 43 s.2) (.slice a s.2.length c), .own (iT xs) (.slice a' xs.length c')]) := by
  refine fn_enter Tryz.func20 rfl Tryz.ntmps20 rfl ?_
  refine c_seq ?_
  refine c_region ?_
  refine sAs rfl rfl ?_
  refine m_alloc tabs rfl rfl (fun b3 hb3 => ?_)
  refine sAs rfl rfl ?_
  refine c_nil (x_then ?_)
  repeat' (first | (show oL; first | refine sMv rfl rfl ?_ | refine sAs rfl rfl ?_ | refine sFd tabs rfl rfl rfl rfl ?_ | refine sLd 0 tabs rfl rfl rfl rfl rfl ?_ | (show oA (.binOp _ _ _ _ _); refine st_y (y_gtr rfl rfl) rfl ?_) | (show oA (.call _); first | (refine m_call (ent_of Tryz.func48 kr rfl) rfl rfl (fun w c => l1New_ok (hp_code c hc)) ?_; rintro v H' ⟨b, ch, rfl, rfl⟩) | (refine m_callL 0 (ent_of Tryz.func55 kr rfl) rfl rfl rfl (fun w M' hl => l2Prime_ok hl hc (Nat.zero_le _)) ?_; rintro v H' ⟨i, ch, _, hi, rfl, p, rfl, hp, rfl⟩) | (refine m_callL 0 (ent_of Tryz.func50 kr rfl) rfl rfl rfl (fun w M' hl => l1BelowN_ok 5 (by decide) hl hc hi) ?_; rintro v H' ⟨i, ch, _, hi, rfl, n, rfl, hn, rfl⟩) | (refine m_callL 0 (ent_of Tryz.func59 kr rfl) rfl rfl rfl (fun w M' hl => l5Space_ok p n hl hc hi om) ?_; rintro v H' ⟨i, ch, _, hi, rfl, s, a, c, rfl, hsh, rfl⟩) | (refine m_callL 1 (ent_of Tryz.func57 kr rfl) rfl rfl rfl (fun w M' hl => l1Once_ok 3 hl hc hi) ?_; rintro v H' ⟨i, ch, _, hi, rfl, (_ | _), rfl, rfl⟩) | refine sLn tabs rfl rfl rfl ?_) | (show oA (.pick _ _ _); first | refine st_y (y_pickt rfl aO rfl) rfl ?_ | refine st_y (y_pickf rfl aO rfl) rfl ?_) | (show oA (.store _ _ _); refine m_storeb 0 tabs rfl rfl rfl rfl rfl rfl rfl ?_) | (show oA (.alloc _); refine m_alloc tabs rfl rfl (fun b8 hb8 => ?_)) | refine st_gdy rfl rfl aO ?_ | refine st_gdn rfl rfl aO rfl ?_ | refine st_gd rfl rfl (fun h => ?_) (fun h => ?_)) | refine xNt ?_ | (show oC; first | refine c_seq ?_ | refine c_region ?_ | refine c_skip (x_then ?_) | refine c_true rfl ?_ | refine c_false rfl ?_))
  · skip
    refine c_all (Hp [] w [.blk b8 #[iV s.1, .slice a s.2.length c] 26]) kr (fun _ c => Hp.drew c) ?_
    refine h_take 0 rfl kr kr kr (by exact y_move rfl) rfl sS ?_
    refine h_take 1 rfl kr kr kr (by first | exact y_loadb 0 tabs rfl rfl rfl rfl | exact y_loadb 0 tabs rfl rfl rfl rfl) rfl sS ?_
    refine h_take 2 rfl kr kr kr (by exact y_move rfl) rfl sS ?_
    refine h_take 3 rfl kr kr kr (by exact y_move rfl) rfl sS ?_
    refine h_take 4 rfl kr kr kr (by exact y_move rfl) rfl sS ?_
    refine h_only 5 rfl kr ?_
    first | (refine m_callL 0 (ent_of Tryz.func60 kr rfl) rfl rfl rfl (fun w M' hl => l2Vector_ok p n hl hc hi om) ?_; rintro v H' ⟨i, ch, _, hi, rfl, xs, ax, cx, rfl, hxl, rfl⟩) | (refine m_storeb 4 tabs rfl rfl rfl rfl rfl rfl rfl ?_) | (refine m_storeb 4 tabs rfl rfl rfl rfl rfl rfl rfl ?_)
    refine c_nil (x_one (h_keep sS ?_))
    refine h_take 6 rfl kr kr kr (by exact y_assign rfl) rfl sS ?_
    refine h_only 7 rfl kr ?_
    first | (refine m_callL 0 (ent_of Tryz.func60 kr rfl) rfl rfl rfl (fun w M' hl => l2Vector_ok p n hl hc hi om) ?_; rintro v H' ⟨i, ch, _, hi, rfl, xs, ax, cx, rfl, hxl, rfl⟩) | (refine m_storeb 4 tabs rfl rfl rfl rfl rfl rfl rfl ?_) | (refine m_storeb 4 tabs rfl rfl rfl rfl rfl rfl rfl ?_)
    refine c_nil (x_one (h_keep sS ?_))
    refine h_take 8 rfl kr kr kr (by exact y_assign rfl) rfl sS ?_
    refine h_end kr ?_
    repeat' (first | (show oC; refine c_ret ?_) | (show AT _ _ _ _; refine x_then ?_))
    exact x_ret3 Tryz.results20 (res_tmp rfl) (res_cellb 4 tabs rfl rfl rfl rfl) (res_tmp rfl) (fun w9 k9 => ⟨_, _, rfl, ⟨p, s, a, c, xs, ax, cx, rfl, rfl⟩, k9.sel [3, 1] rfl⟩)
  · have hpos : 0 < s.2.length := by omega
    refine AT.sel [2, 0, 1, 3] rfl ?_
    refine AT.fact (rows_sl 0 rfl) (fun hsa => ?_)
    refine AT.opn 0 rfl (fun us hus => ?_)
    rw [rowT_map, List.length_map] at hus
    rw [rowT_map]
    refine c_all (Hp [] w [.own (.s 43 1 (us.map T.c)) (.slice a s.2.length c), .blk b8 #[iV s.1, .slice a s.2.length c] 26]) kr (fun _ c => Hp.drew c) ?_
    refine h_take 0 rfl kr kr kr (by exact y_move rfl) rfl sS ?_
    refine h_take 1 rfl kr kr kr (by first | exact y_loadb 1 tabs rfl rfl rfl rfl | exact y_loadb 1 tabs rfl rfl rfl rfl) rfl sS ?_
    refine h_take 3 rfl kr kr kr (by exact y_field tabs rfl rfl rfl) rfl sS ?_
    refine h_take 4 rfl kr kr kr (by exact y_load tabs rfl rfl (hc_blk 1 rfl rfl)) rfl sS ?_
    refine h_take 5 rfl kr kr kr (by exact y_move rfl) rfl sS ?_
    refine h_take 6 rfl kr kr kr (by exact y_field tabs rfl rfl rfl) rfl sS ?_
    refine h_take 7 rfl kr kr kr (by exact y_load tabs rfl rfl (hc_blk 1 rfl rfl)) rfl sS ?_
    refine h_take 8 rfl kr kr kr (by exact y_len tabs rfl rfl) rfl sS ?_
    refine h_two 2 9 rfl rfl kr ?_ ?_
    · skip
      (refine m_build0 tabs rfl rfl (fun g hg => ?_))
      refine c_nil (x_one (h_keep sS ?_))
      refine h_only 9 rfl kr ?_
      (refine m_callL 3 (ent_of Tryz.func50 kr rfl) rfl rfl rfl (fun w M' hl => l1BelowN_ok s.2.length hpos hl hc hi) ?_; rintro v H' ⟨i, ch, _, hi, rfl, k, rfl, hk, rfl⟩)
      refine c_nil (x_one (h_keep sS ?_))
      obtain ⟨xs, hx⟩ : ∃ xs, s.2[k]? = some xs := ⟨_, List.getElem?_eq_getElem hk⟩
      obtain ⟨uk, huk⟩ : ∃ uk, us[k]? = some uk := ⟨_, List.getElem?_eq_getElem om⟩
      have hki : (s.2.map iT)[k]? = some (iT xs) := by rw [List.getElem?_map, hx]; rfl
      have hxl := hsh.2 xs (List.mem_of_getElem? hx)
      refine AT.fact (fun w9 k9 => rd_sl (Hp.ownL_rd 3 rfl hki huk k9)) (fun hsu => ?_)
      obtain ⟨au, cu, rfl, hsu⟩ := hsu
      refine h_take 10 rfl kr kr kr (by exact y_ix1 tabs (j := k) rfl rfl rfl hsa rfl hk) rfl sS ?_
      refine h_take 11 rfl kr kr kr (by exact y_load tabs rfl rfl (hc_nm 0 rfl huk)) rfl sS ?_
      refine h_only 12 rfl kr ?_
      first | (refine m_dup 1 tabs rfl rfl rfl rfl rfl om (fun w9 k9 => Hp.ownL_rd 3 rfl hki huk k9) (fun a8 c8 hs8 => ?_)) | (refine m_storeb 5 tabs rfl rfl rfl rfl rfl rfl rfl ?_)
      refine c_nil (x_one (h_keep sS ?_))
      refine h_take 13 rfl kr kr kr (by exact y_assign rfl) rfl sS ?_
      refine h_only 14 rfl kr ?_
      first | (refine m_dup 1 tabs rfl rfl rfl rfl rfl om (fun w9 k9 => Hp.ownL_rd 3 rfl hki huk k9) (fun a8 c8 hs8 => ?_)) | (refine m_storeb 5 tabs rfl rfl rfl rfl rfl rfl rfl ?_)
      refine c_nil (x_one (h_keep sS ?_))
      refine h_take 15 rfl kr kr kr (by exact y_assign rfl) rfl sS ?_
      refine h_end kr ?_
      repeat' (first | (show oC; refine c_ret ?_) | (show AT _ _ _ _; first | refine x_then ?_ | refine x_then_ret ?_))
      exact x_ret3 Tryz.results20 (res_tmp rfl) (res_cellb 5 tabs rfl rfl rfl rfl) (res_tmp rfl) (fun w9 k9 => ⟨_, _, rfl, ⟨p, s, a, c, xs, a8, c8, rfl, rfl⟩, by
        have h := (k9.sel [2, 3, 0] rfl).cls
        have e : rowsT 43 s.2 = .s 43 1 (s.2.map iT) := by unfold rowsT; rw [rowT_map]
        rw [e]
        exact h⟩)
    · skip
      (refine m_callL 2 (ent_of Tryz.func50 kr rfl) rfl rfl rfl (fun w M' hl => l1BelowN_ok s.2.length hpos hl hc hi) ?_; rintro v H' ⟨i, ch, _, hi, rfl, k, rfl, hk, rfl⟩)
      refine c_nil (x_one (h_keep sS ?_))
      obtain ⟨xs, hx⟩ : ∃ xs, s.2[k]? = some xs := ⟨_, List.getElem?_eq_getElem hk⟩
      obtain ⟨uk, huk⟩ : ∃ uk, us[k]? = some uk := ⟨_, List.getElem?_eq_getElem om⟩
      have hki : (s.2.map iT)[k]? = some (iT xs) := by rw [List.getElem?_map, hx]; rfl
      have hxl := hsh.2 xs (List.mem_of_getElem? hx)
      refine AT.fact (fun w9 k9 => rd_sl (Hp.ownL_rd 2 rfl hki huk k9)) (fun hsu => ?_)
      obtain ⟨au, cu, rfl, hsu⟩ := hsu
      refine h_take 10 rfl kr kr kr (by exact y_ix1 tabs (j := k) rfl rfl rfl hsa rfl hk) rfl sS ?_
      refine h_take 11 rfl kr kr kr (by exact y_load tabs rfl rfl (hc_nm 0 rfl huk)) rfl sS ?_
      refine h_only 2 rfl kr ?_
      first | (refine m_build0 tabs rfl rfl (fun g hg => ?_)) | (refine m_dup 0 tabs rfl rfl rfl rfl rfl om (fun w9 k9 => Hp.ownL_rd 3 rfl hki huk k9) (fun a8 c8 hs8 => ?_)) | (refine m_storeb 5 tabs rfl rfl rfl rfl rfl rfl rfl ?_)
      refine c_nil (x_one (h_keep sS ?_))
      refine h_only 12 rfl kr ?_
      first | (refine m_build0 tabs rfl rfl (fun g hg => ?_)) | (refine m_dup 0 tabs rfl rfl rfl rfl rfl om (fun w9 k9 => Hp.ownL_rd 3 rfl hki huk k9) (fun a8 c8 hs8 => ?_)) | (refine m_storeb 5 tabs rfl rfl rfl rfl rfl rfl rfl ?_)
      refine c_nil (x_one (h_keep sS ?_))
      refine h_take 13 rfl kr kr kr (by exact y_assign rfl) rfl sS ?_
      refine h_only 14 rfl kr ?_
      first | (refine m_build0 tabs rfl rfl (fun g hg => ?_)) | (refine m_dup 0 tabs rfl rfl rfl rfl rfl om (fun w9 k9 => Hp.ownL_rd 3 rfl hki huk k9) (fun a8 c8 hs8 => ?_)) | (refine m_storeb 5 tabs rfl rfl rfl rfl rfl rfl rfl ?_)
      refine c_nil (x_one (h_keep sS ?_))
      refine h_take 15 rfl kr kr kr (by exact y_assign rfl) rfl sS ?_
      refine h_end kr ?_
      repeat' (first | (show oC; refine c_ret ?_) | (show AT _ _ _ _; first | refine x_then ?_ | refine x_then_ret ?_))
      exact x_ret3 Tryz.results20 (res_tmp rfl) (res_cellb 5 tabs rfl rfl rfl rfl) (res_tmp rfl) (fun w9 k9 => ⟨_, _, rfl, ⟨p, s, a, c, xs, a8, c8, rfl, rfl⟩, by
        have h := (k9.sel [2, 3, 0] rfl).cls
        have e : rowsT 43 s.2 = .s 43 1 (s.2.map iT) := by unfold rowsT; rw [rowT_map]
        rw [e]
        exact h⟩)
  · skip
    refine c_all (Hp [] w [.blk b8 #[iV s.1, .slice a s.2.length c] 26]) kr (fun _ c => Hp.drew c) ?_
    refine h_take 0 rfl kr kr kr (by exact y_move rfl) rfl sS ?_
    refine h_take 1 rfl kr kr kr (by first | exact y_loadb 0 tabs rfl rfl rfl rfl | exact y_loadb 0 tabs rfl rfl rfl rfl) rfl sS ?_
    refine h_take 2 rfl kr kr kr (by exact y_move rfl) rfl sS ?_
    refine h_take 3 rfl kr kr kr (by exact y_move rfl) rfl sS ?_
    refine h_take 4 rfl kr kr kr (by exact y_move rfl) rfl sS ?_
    refine h_only 5 rfl kr ?_
    first | (refine m_callL 1 (ent_of Tryz.func60 kr rfl) rfl rfl rfl (fun w M' hl => l2Vector_ok p n hl hc hi om) ?_; rintro v H' ⟨i, ch, _, hi, rfl, xs, ax, cx, rfl, hxl, rfl⟩) | (refine m_storeb 4 tabs rfl rfl rfl rfl rfl rfl rfl ?_) | (refine m_storeb 4 tabs rfl rfl rfl rfl rfl rfl rfl ?_)
    refine c_nil (x_one (h_keep sS ?_))
    refine h_take 6 rfl kr kr kr (by exact y_assign rfl) rfl sS ?_
    refine h_only 7 rfl kr ?_
    first | (refine m_callL 1 (ent_of Tryz.func60 kr rfl) rfl rfl rfl (fun w M' hl => l2Vector_ok p n hl hc hi om) ?_; rintro v H' ⟨i, ch, _, hi, rfl, xs, ax, cx, rfl, hxl, rfl⟩) | (refine m_storeb 4 tabs rfl rfl rfl rfl rfl rfl rfl ?_) | (refine m_storeb 4 tabs rfl rfl rfl rfl rfl rfl rfl ?_)
    refine c_nil (x_one (h_keep sS ?_))
    refine h_take 8 rfl kr kr kr (by exact y_assign rfl) rfl sS ?_
    refine h_end kr ?_
    repeat' (first | (show oC; refine c_ret ?_) | (show AT _ _ _ _; refine x_then ?_))
    exact x_ret3 Tryz.results20 (res_tmp rfl) (res_cellb 4 tabs rfl rfl rfl rfl) (res_tmp rfl) (fun w9 k9 => ⟨_, _, rfl, ⟨p, s, a, c, xs, ax, cx, rfl, rfl⟩, k9.sel [3, 1] rfl⟩)
end Go.Proofs.YtcplmeajmpkpkaaGreat
