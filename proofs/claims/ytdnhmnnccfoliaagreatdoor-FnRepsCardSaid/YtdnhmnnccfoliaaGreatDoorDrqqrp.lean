import Derived.Test.YtdnhmnnccfoliaaGreatDoorDrwqrp
import Derived.Test.YtdnhmnnccfoliaaGreatDoorQscqrp
import Derived.Test.YtdnhmnnccfoliaaGreatDoorZerqrp
namespace Go.Proofs.YtdnhmnnccfoliaaGreatDoor
open Go.Lg Go.Proofs Go.RowKit
attribute [local irreducible] Code.wp wpList bodyPost Exit.then Exit.inBlock Hp Again Calls Y AT ResV QT Qn QI wpAny wpAnyQ
set_option maxRecDepth 20000
set_option maxHeartbeats 4000000

theorem l3Random_ok {w1 : World} {M1 : List Nat} {H1 : List HE} {w : World} {M' : List Nat} {u : Value} {b i : Nat} {h : Int} (p : Int) {R C : Nat} (hl : Lent M1 w1 (cu u b i h) H1 M' w) (hc : CodeF w1 M1 u) (hi : i ≤ vlen u) (hR : R ≤ 1000) (hC : C ≤ 1000) :
    DoesB Tryz.prog 109 [cuV b, iV p, iV R, iV C] w M' (Gcu u b (fun v H => ∃ (xs : List Int) (a : Option Addr) (c : Nat), v = .agg #[iV R, iV C, .slice a xs.length c] ∧ xs.length = R * C ∧ H = [.own (iT xs) (.slice a xs.length c)])) := by
  have hc2 := lent_code hl hc
  have hRC := rc_le (R := R) (C := C) om om
  refine fnb_lent Tryz.func109 rfl Tryz.ntmps109 rfl hl ?_
  repeat' (first | (show oL; first | refine sMv rfl rfl ?_ | refine sAs rfl rfl ?_ | (show oA (.call _); (refine m_call (ent_of Tryz.func125 kr rfl) rfl rfl (fun w c => l3Zero_ok (R := R) (C := C) om om) ?_; rintro v H' ⟨am, cm, rfl, hsm, rfl⟩)) | (show oA (.store _ _ _); refine m_storeb 0 tabs rfl rfl rfl rfl rfl rfl rfl ?_) | (show oA (.alloc _); refine m_alloc tabs rfl rfl (fun b9 hb9 => ?_))) | refine xNt ?_ | (show oC; first | refine c_seq ?_ | refine c_region ?_ | refine c_block ?_))
  rename_i b8 hb8
  refine c_loopH (α := List Int × Nat × Nat × Int) [0, 1, 8, 9] (fun s => [(10, iV s.2.1)]) (fun s => (s.1.length = R * C ∧ s.2.1 ≤ R * C) ∧ s.2.2.1 ≤ vlen u) (fun s => [.own (iT s.1) (.slice am (R * C) cm), cu u b s.2.2.1 s.2.2.2, .blk b9 #[iV R, iV C, .slice am (R * C) cm] 41, .blk b8 #[iV 0, iV 0, .slice none 0 0] 41]) (fun s => R * C - s.2.1) (mk R C (fun _ _ => 0), 0, i, h) rfl sB ?_ ?_ ?_
  · exact ⟨⟨by simp, Nat.zero_le _⟩, hi⟩
  · intro w' c'
    have h1 := (c'.front (i := 3) rfl).front (i := 2) rfl
    exact h1
  · rintro ⟨xs, k, i, ch⟩ ⟨⟨hx, hk⟩, hi⟩
    simp only at hx hk hi ⊢
    by_cases hin : k < R * C
    · repeat' (first | (show oL; first | refine sMv rfl rfl ?_ | refine sFd tabs rfl rfl rfl rfl ?_ | refine sLd 2 tabs rfl rfl rfl rfl rfl ?_ | refine sLs rfl rfl rfl ?_ | refine sLn tabs rfl rfl rfl ?_) | refine xNt ?_ | (show oC; first | refine c_seq ?_ | refine c_region ?_ | refine c_skip (x_then ?_) | refine c_block ?_ | refine c_ift rfl aO ?_))
      refine c_all (Hp M' w [.blk b9 #[iV R, iV C, .slice am (R * C) cm] 41]) kr (fun _ c => Hp.drew c) ?_
      refine h_take 0 rfl kr kr kr (by exact y_field tabs rfl rfl rfl) rfl sS ?_
      refine h_take 1 rfl kr kr kr (by exact y_load tabs rfl rfl (hc_blk 0 rfl rfl)) rfl sS ?_
      refine h_take 2 rfl kr kr kr (by exact y_move rfl) rfl sS ?_
      refine h_take 3 rfl kr kr kr (by exact y_move rfl) rfl sS ?_
      refine h_take 4 rfl kr kr kr (by exact y_move rfl) rfl sS ?_
      refine h_take 5 rfl kr kr kr (by exact y_min rfl rfl) rfl sS ?_
      refine h_take 6 rfl kr kr kr (by exact y_max rfl rfl) rfl sS ?_
      refine h_only 7 rfl kr ?_
      first | (refine m_callL 1 (ent_of Tryz.func100 kr rfl) rfl rfl rfl (fun w M' hl => l1Below_ok (max 1 (min 5 p)) hl hc2 hi) ?_; rintro v H' ⟨i, ch, _, hi, rfl, x, rfl, hx2, rfl⟩) | (refine m_storeo 1 (j := k) tabs rfl rfl rfl rfl om ?_)
      refine c_nil (x_one (h_keep sS ?_))
      refine h_take 8 rfl kr kr kr (by exact y_ix1 tabs (j := k) rfl rfl rfl hsm rfl hin) rfl sS ?_
      refine h_only 9 rfl kr ?_
      first | (refine m_callL 1 (ent_of Tryz.func100 kr rfl) rfl rfl rfl (fun w M' hl => l1Below_ok (max 1 (min 5 p)) hl hc2 hi) ?_; rintro v H' ⟨i, ch, _, hi, rfl, x, rfl, hx2, rfl⟩) | (refine m_storeo 1 (j := k) tabs rfl rfl rfl rfl om ?_)
      refine c_nil (x_one (h_keep sS ?_))
      refine h_end kr ?_
      repeat' (first | (show oL; first | refine sMv rfl rfl ?_ | refine sAs rfl rfl ?_ | refine sAd rfl rfl om rfl ?_) | refine xNt ?_ | (show oC; refine c_region ?_) | (show AT _ _ _ _; first | refine x_then ?_ | refine x_blk ?_))
      exact x_nx (xs.set k x, k + 1, i, ch) sB ⟨⟨by simp only [List.length_set]; omega, by simp only; omega⟩, hi⟩ (fun w' c' => c'.swap) (by simp only; omega)
    · have : k = R * C := by omega
      subst this
      repeat' (first | (show oL; first | refine sMv rfl rfl ?_ | refine sFd tabs rfl rfl rfl rfl ?_ | (show oA (.load _ _); first | refine sLd 2 tabs rfl rfl rfl rfl rfl ?_ | refine sLb 2 tabs rfl rfl rfl rfl rfl ?_) | refine sLs rfl rfl rfl ?_ | refine sLn tabs rfl rfl rfl ?_ | (show oA (.store _ _ _); refine m_storeb 3 tabs rfl rfl rfl rfl rfl rfl rfl ?_)) | refine xNt ?_ | (show oC; first | refine c_seq ?_ | refine c_region ?_ | refine c_ret ?_ | refine c_exit ?_ | refine c_iff rfl nN ?_) | (show AT _ _ _ _; first | refine x_then ?_ | refine x_then_exit ?_ | refine x_blk_exit rfl ?_))
      exact x_ret1 Tryz.results109 (res_cellb 3 tabs rfl rfl rfl rfl) (fun w' c' => ⟨_, _, rfl, ⟨i, ch, _, hi, rfl, xs, am, cm, by rw [hx], hx, rfl⟩, by rw [hx]; exact c'.swap.sub (.cons_cons _ (.cons_cons _ (List.nil_sublist _)))⟩)
abbrev GivesAny (v : Value) (H : List HE) : Prop := ∃ (m : Mat) (a : Option Addr) (c : Nat), v = .agg #[iV m.1, iV m.2.1, .slice a m.2.2.length c] ∧ (m.2.2.length ≤ 16 ∧ 0 ≤ m.2.1 ∧ m.2.1 ≤ 3) ∧ H = [.own (iT m.2.2) (.slice a m.2.2.length c)]
theorem l3Any_ok {w1 : World} {M1 : List Nat} {H1 : List HE} {w : World} {M' : List Nat} {u : Value} {b i : Nat} {h : Int} (p : Int) (hl : Lent M1 w1 (cu u b i h) H1 M' w) (hc : CodeF w1 M1 u) (hi : i ≤ vlen u) :
    DoesB Tryz.prog 99 [cuV b, iV p] w M' (Gcu u b GivesAny) := by
  have hc2 := lent_code hl hc
  refine fnb_lent Tryz.func99 rfl Tryz.ntmps99 rfl hl ?_
  have hRC : ∀ R C : Nat, R < 4 → C < 4 → R * C ≤ 9 := fun R C hR hC => Nat.mul_le_mul (show R ≤ 3 by omega) (show C ≤ 3 by omega)
  repeat' (first | (show oL; first | refine sMv rfl rfl ?_ | refine sAs rfl rfl ?_ | refine sFd tabs rfl rfl rfl rfl ?_ | (show oA (.load _ _); first | refine sLd 1 tabs rfl rfl rfl rfl rfl ?_ | refine sLb 1 tabs rfl rfl rfl rfl rfl ?_ | refine sLb 2 tabs rfl rfl rfl rfl rfl ?_) | (show oA (.binOp _ _ _ _ _); first | refine st_y (y_gtr rfl rfl) rfl ?_ | refine st_y (y_eql rfl rfl) rfl ?_) | (show oA (.call _); first | (refine m_callL 1 (ent_of Tryz.func100 kr rfl) rfl rfl rfl (fun w M' hl => l1BelowN_ok 4 (by decide) hl hc2 hi) ?_; rintro v H' ⟨i, ch, _, hi, rfl, R, rfl, hR, rfl⟩) | (refine m_callL 0 (ent_of Tryz.func100 kr rfl) rfl rfl rfl (fun w M' hl => l1BelowN_ok 4 (by decide) hl hc2 hi) ?_; rintro v H' ⟨i, ch, _, hi, rfl, C, rfl, hC, rfl⟩) | (refine m_callL 0 (ent_of Tryz.func109 kr rfl) rfl rfl rfl (fun w M' hl => l3Random_ok p (R := R) (C := C) hl hc2 hi om om) ?_; rintro v H' ⟨i, ch, _, hi, rfl, xs, a, c, rfl, hx, rfl⟩; have hxl := hRC R C hR hC; rw [← hx] at hxl) | (refine m_callL 1 (ent_of Tryz.func100 kr rfl) rfl rfl rfl (fun w M' hl => l1BelowN_ok 18 (by decide) hl hc2 hi) ?_; rintro v H' ⟨i, ch, _, hi, rfl, z, rfl, hz, rfl⟩) | (refine m_callL 1 (ent_of Tryz.func161 kr rfl) rfl rfl rfl (fun w M' hl => l1PickInt_ok hl hc2 hi (hl.own 0 rfl) (by decide)) ?_; rintro v H' ⟨i, ch, _, hi, rfl, y, rfl, hy, rfl⟩) | refine m_pushi 2 tabs rfl rfl rfl rfl rfl om (fun a9 c9 => ?_) | refine sLn tabs rfl rfl rfl ?_) | (show oA (.store _ _ _); first | refine m_storeb 0 tabs rfl rfl rfl rfl rfl rfl rfl ?_ | refine m_storef 2 tabs rfl rfl rfl rfl rfl rfl ?_ | refine m_storeb 4 tabs rfl rfl rfl rfl rfl rfl rfl ?_ | refine m_storeb 3 tabs rfl rfl rfl rfl rfl rfl rfl ?_) | (show oA (.alloc _); refine m_alloc tabs rfl rfl (fun b9 hb9 => ?_)) | (show oA (.buildSlice _ _ _); first | refine m_buildi tabs [-1, 9, 2, 9223372036854775807] rfl rfl rfl rfl rfl rfl rfl (fun g hg => ?_) | refine m_build1 tabs (us := [iV 0]) rfl rfl rfl rfl (by decide) rfl (fun g5 hg5 => ?_))) | (show oN; first | refine c_nil (x_then ?_) | refine c_nil ?_) | (show oC; first | refine c_seq ?_ | refine c_region ?_ | refine c_skip (x_blk ?_) | refine c_block ?_ | refine c_ret ?_ | refine c_if rfl (fun h => ?_) (fun h => ?_)) | (show AT _ _ _ _; first | refine x_then ?_ | refine x_blk ?_))
  · exact x_ret1 Tryz.results99 (res_cellb 4 tabs rfl rfl rfl rfl) (fun w' c' => ⟨_, _, rfl, ⟨i, ch, _, hi, rfl, (y, (C : Int), xs), a, c, rfl, ⟨by simp only; omega, by simp only; omega, by simp only; omega⟩, rfl⟩, c'.sub (.cons_cons _ (.cons _ (.cons _ (.cons_cons _ (List.nil_sublist _)))))⟩)
  · exact x_ret1 Tryz.results99 (res_cellb 3 tabs rfl rfl rfl rfl) (fun w' c' => ⟨_, _, rfl, ⟨i, ch, _, hi, rfl, ((R : Int), (C : Int), xs ++ [0]), a9, c9, by rw [List.length_append]; rfl, ⟨by simp only [List.length_append, List.length_singleton]; omega, by simp only; omega, by simp only; omega⟩, rfl⟩, by rw [List.length_append]; exact c'.swap.sub (.cons_cons _ (.cons_cons _ (List.nil_sublist _)))⟩)
  · rename_i b8 hb8 _ _ _ _ _ _ _ _ _ _ _ _
    refine AT.fact (own_sl 2 rfl) (fun hsl => ?_)
    obtain ⟨_, _, e, hs⟩ := hsl
    cases e
    refine c_all (Hp M' w [.blk b9 #[iV R, iV C, .slice a xs.length c] 41]) kr (fun _ c => Hp.drew c) ?_
    refine h_take 0 rfl kr kr kr (by exact y_field tabs rfl rfl rfl) rfl sS ?_
    refine h_take 1 rfl kr kr kr (by exact y_load tabs rfl rfl (hc_blk 0 rfl rfl)) rfl sS ?_
    refine h_take 2 rfl kr kr kr (by exact y_move rfl) rfl sS ?_
    refine h_only 3 rfl kr ?_
    first | (refine m_buildi tabs [-1, 5, 2] rfl rfl rfl rfl rfl rfl rfl (fun g hg => ?_)) | (refine m_callL 1 (ent_of Tryz.func161 kr rfl) rfl rfl rfl (fun w M' hl => l1PickInt_ok hl hc2 hi (hl.own 0 rfl) (by decide)) ?_; rintro v H' ⟨i, ch, _, hi, rfl, y, rfl, hy, rfl⟩) | (refine m_storeo 3 (j := 0) tabs rfl rfl rfl rfl om ?_)
    refine c_nil (x_one (h_keep sS ?_))
    refine h_only 4 rfl kr ?_
    first | (refine m_buildi tabs [-1, 5, 2] rfl rfl rfl rfl rfl rfl rfl (fun g hg => ?_)) | (refine m_callL 1 (ent_of Tryz.func161 kr rfl) rfl rfl rfl (fun w M' hl => l1PickInt_ok hl hc2 hi (hl.own 0 rfl) (by decide)) ?_; rintro v H' ⟨i, ch, _, hi, rfl, y, rfl, hy, rfl⟩) | (refine m_storeo 3 (j := 0) tabs rfl rfl rfl rfl om ?_)
    refine c_nil (x_one (h_keep sS ?_))
    refine h_take 5 rfl kr kr kr (by exact y_ix1 tabs (j := 0) rfl rfl rfl hs rfl om) rfl sS ?_
    refine h_only 6 rfl kr ?_
    first | (refine m_buildi tabs [-1, 5, 2] rfl rfl rfl rfl rfl rfl rfl (fun g hg => ?_)) | (refine m_callL 1 (ent_of Tryz.func161 kr rfl) rfl rfl rfl (fun w M' hl => l1PickInt_ok hl hc2 hi (hl.own 0 rfl) (by decide)) ?_; rintro v H' ⟨i, ch, _, hi, rfl, y, rfl, hy, rfl⟩) | (refine m_storeo 3 (j := 0) tabs rfl rfl rfl rfl om ?_)
    refine c_nil (x_one (h_keep sS ?_))
    refine h_end kr ?_
    repeat' (first | (show oL; first | refine sLb 2 tabs rfl rfl rfl rfl rfl ?_ | (show oA (.store _ _ _); refine m_storeb 4 tabs rfl rfl rfl rfl rfl rfl rfl ?_)) | refine xNt ?_ | (show oC; first | refine c_seq ?_ | refine c_region ?_ | refine c_ret ?_) | (show AT _ _ _ _; first | refine x_then ?_ | refine x_blk ?_))
    exact x_ret1 Tryz.results99 (res_cellb 4 tabs rfl rfl rfl rfl) (fun w' c' => ⟨_, _, rfl, ⟨i, ch, _, hi, rfl, ((R : Int), (C : Int), xs.set 0 y), a, c, by rw [List.length_set], ⟨by simp only [List.length_set]; omega, by simp only; omega, by simp only; omega⟩, rfl⟩, by rw [List.length_set]; exact c'.sub (.cons_cons _ (.cons _ (.cons _ (.cons_cons _ (List.nil_sublist _)))))⟩)
  all_goals exact x_ret1 Tryz.results99 (res_cellb 3 tabs rfl rfl rfl rfl) (fun w' c' => ⟨_, _, rfl, ⟨i, ch, _, hi, rfl, ((R : Int), (C : Int), xs), a, c, rfl, ⟨by simp only; omega, by simp only; omega, by simp only; omega⟩, rfl⟩, c'.sub (.cons_cons _ (.cons _ (.cons_cons _ (List.nil_sublist _))))⟩)
theorem hp_code {w w' : World} {H : List HE} {u : Value} (c : Hp [] w H w') (hc : CodeF w [] u) : CodeF w' [] u := by
  obtain ⟨xs, h, hb⟩ := hc
  exact ⟨xs, RdOut.of_rd (h.rd c), hb⟩
end Go.Proofs.YtdnhmnnccfoliaaGreatDoor

namespace Go.Proofs.YtdnhmnnccfoliaaGreatDoor
open Go.Lg Go.Proofs Go.RowKit
attribute [local irreducible] Code.wp wpList bodyPost Exit.then Exit.inBlock Hp Again Calls Y AT ResV QT Qn QI wpAny wpAnyQ
set_option maxRecDepth 20000
set_option maxHeartbeats 4000000

theorem l1Pick_ok {w1 : World} {M1 : List Nat} {H1 : List HE} {w : World} {M' : List Nat} {u v : Value} {b i : Nat} {h : Int} {l : List (List UInt8)} (hl : Lent M1 w1 (cu u b i h) H1 M' w) (hc : CodeF w1 M1 u) (hi : i ≤ vlen u) (hr : RdOut w M' (strT l) v) (hx : 0 < l.length) :
    DoesB Tryz.prog 102 [cuV b, v] w M' (Gcu u b (fun v H => ∃ x, v = sV x ∧ x ∈ l ∧ H = [])) := by
  have hc2 := lent_code hl hc
  obtain ⟨a, m, cap, rfl, hs, hmc, _, hlen, hg⟩ := RdOut.open (by decide) hr
  have hm : l.length = m := by simpa using hlen
  subst hm
  have hg' : ∀ j, j < l.length → ∀ w', Agree M' w w' → w'.cell? ⟨ab a, ao a + j, none⟩ = some (sV (l.getD j [])) := fun j hj => by
    obtain ⟨x, c, r⟩ := hg j (.c (sV (l.getD j []))) (by simp [List.getD, hj])
    rw [r.c] at c
    exact c
  have hmem : ∀ k : Int, 0 ≤ k → k < l.length → l.getD k.toNat [] ∈ l := fun k h0 h1 => by
    rw [List.getD, List.getElem?_eq_getElem (show k.toNat < l.length by omega)]; exact List.getElem_mem _
  refine fnb_lent Tryz.func102 rfl Tryz.ntmps102 rfl hl ?_
  repeat' (first | (show oL; first | refine sMv rfl rfl ?_ | refine sAs rfl rfl ?_ | (show oA (.load _ _); refine st_y (y_load tabs rfl rfl (fun w' c' => hg' _ om w' c'.agree)) rfl ?_) | (show oA (.indexAddr _ _ _); refine st_y (y_ixi tabs rfl rfl rfl hs om om) rfl ?_) | (show oA (.call _); first | (refine m_callL 0 (ent_of Tryz.func100 kr rfl) rfl rfl rfl (fun w M' hl => l1Below_ok l.length hl hc2 hi) ?_; rintro v H' ⟨i, h, _, hi, rfl, x, rfl, hx, rfl⟩) | refine sLn tabs rfl rfl rfl ?_)) | refine xNt ?_ | (show oC; first | refine c_seq ?_ | refine c_region ?_ | refine c_ret ?_))
  exact x_ret1 Tryz.results102 (res_tmp rfl) (fun w' c' => ⟨_, _, rfl, ⟨i, _, [], hi, rfl, _, rfl, hmem _ om om, rfl⟩, c'⟩)
def nmL : List (List UInt8) := [[65, 49], [65, 50], [65, 51], [65, 51, 105, 110], [65, 52], [68, 52], [68, 53], [75, 50], [115, 116, 97, 114, 52], [115, 113, 117, 97, 114, 101], [108, 111, 111, 112], [99, 105, 114, 99, 108, 101]]
def nmX (s : List UInt8) : List UInt8 :=
  if s = [65, 49] then [49, 58] else if s = [65, 50] then [50, 58, 32, 48, 49] else if s = [65, 51] then [51, 58, 32, 48, 49, 32, 49, 50] else if s = [65, 51, 105, 110] then [51, 58, 32, 48, 49, 32, 50, 49] else
  if s = [65, 52] then [52, 58, 32, 48, 49, 32, 49, 50, 32, 50, 51] else if s = [68, 52] then [52, 58, 32, 48, 51, 32, 49, 51, 32, 50, 51] else if s = [68, 53] then [53, 58, 32, 48, 50, 32, 49, 50, 32, 50, 51, 32, 51, 52] else
  if s = [75, 50] then [50, 58, 32, 48, 49, 32, 48, 49] else if s = [115, 116, 97, 114, 52] then [53, 58, 32, 48, 52, 32, 49, 52, 32, 50, 52, 32, 51, 52] else if s = [115, 113, 117, 97, 114, 101] then [52, 58, 32, 48, 49, 32, 48, 50, 32, 49, 51, 32, 50, 51] else
  if s = [108, 111, 111, 112] then [49, 58, 32, 48, 48] else if s = [99, 105, 114, 99, 108, 101] then [51, 58, 32, 48, 49, 32, 49, 50, 32, 50, 48] else []
theorem nm_par : ∀ k, k < 12 → parP (nmX (nmL.getD k [])) := by decide +kernel
theorem l6Names_ok {w : World} : Does Tryz.prog 213 [] w (fun v H => ∃ a c, v = .slice a nmL.length c ∧ SA a nmL.length ∧ H = [.own (strT nmL) (.slice a nmL.length c)]) := by
  refine fn_enter Tryz.func213 rfl Tryz.ntmps213 rfl ?_
  repeat' (first | (show oL; first | refine sAs rfl rfl ?_ | (show oA (.buildSlice _ _ _); refine m_buildc tabs (nmL.map sV) rfl rfl rfl rfl rfl rfl rfl (fun u hu => by obtain ⟨q, _, rfl⟩ := List.mem_map.1 hu; rfl) (fun g hg => ?_))) | refine xNt ?_ | (show oC; first | refine c_seq ?_ | refine c_region ?_ | refine c_ret ?_))
  exact x_ret1 Tryz.results213 (res_tmp rfl) (fun w' c' => ⟨_, _, rfl, ⟨_, _, rfl, .mk, rfl⟩, c'⟩)
theorem spec_NamedQuiver_ok {w : World} {s : List UInt8} : Does Tryz.prog 190 [sV s] w (GivesQn (parQ (nmX s)) (decide (parP (nmX s)))) := by
  refine fn_enter Tryz.func190 rfl Tryz.ntmps190 rfl ?_
  repeat' (first | (show oL; first | refine sMv rfl rfl ?_ | refine sAs rfl rfl ?_ | refine sLb 0 tabs rfl rfl rfl rfl rfl ?_ | (show oA (.binOp _ _ _ _ _); refine st_y (y_eqls rfl rfl) rfl ?_) | (show oA (.call _); (refine m_call (ent_of Tryz.func214 kr rfl) rfl rfl (fun w c => spec_ParseQuiver_ok (by decide)) ?_; rintro v H' ⟨a, c, a', c', rfl, rfl⟩)) | (show oA (.extract _ _); refine st_y (y_ext rfl rfl) rfl ?_) | (show oA (.store _ _ _); first | refine m_storeb 0 tabs rfl rfl rfl rfl rfl rfl rfl ?_ | refine m_storeb 3 tabs rfl rfl rfl rfl rfl rfl rfl ?_) | (show oA (.alloc _); refine m_alloc tabs rfl rfl (fun b2 hb2 => ?_))) | (show oN; first | refine c_nil (x_then ?_) | refine c_nil ?_) | (show oC; first | refine c_seq ?_ | refine c_region ?_ | refine c_skip (x_blk ?_) | refine c_block ?_ | refine c_ret ?_ | refine c_if rfl (fun h => ?_) (fun h => ?_)) | (show AT _ _ _ _; first | refine x_then ?_ | refine x_blk ?_))
  all_goals first
    | (subst h; exact x_ret2 Tryz.results190 (res_cellb 3 tabs rfl rfl rfl rfl) (res_tmp rfl) (fun wz cz => ⟨_, _, rfl, ⟨a, c, a', c', rfl, rfl⟩, cz.sub (.cons _ (.cons_cons _ (.cons_cons _ (List.nil_sublist _))))⟩))
    | (have e : nmX s = [] := by simp [nmX, *]
       rw [e]
       exact x_ret2 Tryz.results190 (res_cellb 3 tabs rfl rfl rfl rfl) (res_tmp rfl) (fun wz cz => ⟨_, _, rfl, ⟨a, c, a', c', rfl, rfl⟩, cz.sub (.cons _ (.cons_cons _ (.cons_cons _ (List.nil_sublist _))))⟩))
end Go.Proofs.YtdnhmnnccfoliaaGreatDoor
