import Derived.Test.YtcplmeajmpkpkaaGreatLCqsp
import Derived.Test.YtcplmeajmpkpkaaGreatLfnqsp
namespace Go.Proofs.YtcplmeajmpkpkaaGreat
open Go.Lg Go.Proofs Go.RowKit
attribute [local irreducible] Code.wp wpList bodyPost Exit.then Exit.inBlock Hp Again Calls Y AT ResV QT Qn QI wpAny wpAnyQ
set_option maxRecDepth 20000
set_option maxHeartbeats 4000000

theorem pow_le {p i : Nat} (hp : p ≤ 5) (hi : i ≤ 8) : p ^ i ≤ 390625 := by
  have h1 : p ^ i ≤ 5 ^ i := Nat.pow_le_pow_left hp i
  have h2 : 5 ^ i ≤ 5 ^ 8 := Nat.pow_le_pow_right (by decide) hi
  have : (5 : Nat) ^ 8 = 390625 := by decide
  omega
theorem power_ok {w : World} {p n : Nat} (hp : p ≤ 5) (hn : n ≤ 8) : Does Tryz.prog 54 [iV p, iV n] w (fun v H => v = iV ((p ^ n : Nat) : Int) ∧ H = []) := by
  refine fn_enter Tryz.func54 rfl Tryz.ntmps54 rfl ?_
  repeat' (first | (show oL; first | refine sMv rfl rfl ?_ | refine sAs rfl rfl ?_) | refine xNt ?_ | (show oC; first | refine c_seq ?_ | refine c_region ?_ | refine c_block ?_))
  refine c_loopH (α := Nat) [0, 6] (fun i => [(5, iV ((p ^ i : Nat) : Int)), (7, .int .i64 i)]) (fun i => i ≤ n) (fun i => []) (fun i => n - i) 0 rfl sB ?_ ?_ ?_
  · exact Nat.zero_le _
  · exact fun w' c' => c'
  · intro i hi
    by_cases hin : i < n
    · have hb := pow_le hp (show i ≤ 8 by omega)
      have hm := Nat.mul_le_mul hb hp
      repeat' (first | (show oL; first | refine sMv rfl rfl ?_ | refine sAs rfl rfl ?_ | (show oA (.binOp _ _ _ _ _); first | refine st_y (y_muln rfl rfl rfl rfl om) rfl ?_ | refine sAd rfl rfl om rfl ?_ | refine sLs rfl rfl rfl ?_)) | (show oN; first | refine c_nil (x_then ?_) | refine c_nil ?_) | (show oC; first | refine c_seq ?_ | refine c_region ?_ | refine c_skip (x_then ?_) | refine c_block ?_ | refine c_ift rfl aO ?_) | (show AT _ _ _ _; first | refine x_then ?_ | refine x_blk ?_))
      exact x_nx (i + 1) (by rw [Nat.pow_succ]; exact sB) om (fun w' c' => c') om
    · have : i = n := by omega
      subst this
      repeat' (first | (show oL; first | refine sMv rfl rfl ?_ | refine sAs rfl rfl ?_ | refine sLs rfl rfl rfl ?_) | refine xNt ?_ | (show oC; first | refine c_seq ?_ | refine c_region ?_ | refine c_ret ?_ | refine c_exit ?_ | refine c_iff rfl nN ?_) | (show AT _ _ _ _; first | refine x_then ?_ | refine x_then_exit ?_ | refine x_blk_exit rfl ?_))
      exact x_ret1 Tryz.results54 (res_tmp rfl) (fun w' c' => ⟨_, _, rfl, ⟨rfl, rfl⟩, c'⟩)
theorem l5Power_ok {w : World} {p n : Nat} (hp : p ≤ 5) (hn : n ≤ 8) : Does Tryz.prog 76 [iV p, iV n] w (fun v H => v = iV ((p ^ n : Nat) : Int) ∧ H = []) := by
  refine fn_enter Tryz.func76 rfl Tryz.ntmps76 rfl ?_
  repeat' (first | (show oL; first | refine sAs rfl rfl ?_) | refine xNt ?_ | (show oC; first | refine c_seq ?_ | refine c_region ?_ | refine c_block ?_))
  refine c_loopH (α := Nat) [0, 1] (fun i => [(5, iV ((p ^ i : Nat) : Int)), (6, .int .i64 i)]) (fun i => i ≤ n) (fun i => []) (fun i => n - i) 0 rfl sB ?_ ?_ ?_
  · exact Nat.zero_le _
  · exact fun w' c' => c'
  · intro i hi
    by_cases hin : i < n
    · have hb := pow_le hp (show i ≤ 8 by omega)
      have hm := Nat.mul_le_mul hb hp
      repeat' (first | (show oL; first | refine sMv rfl rfl ?_ | refine sAs rfl rfl ?_ | (show oA (.binOp _ _ _ _ _); first | refine st_y (y_muln rfl rfl rfl rfl om) rfl ?_ | refine sAd rfl rfl om rfl ?_ | refine sLs rfl rfl rfl ?_)) | (show oN; first | refine c_nil (x_then ?_) | refine c_nil ?_) | (show oC; first | refine c_seq ?_ | refine c_region ?_ | refine c_skip (x_then ?_) | refine c_block ?_ | refine c_ift rfl aO ?_) | (show AT _ _ _ _; first | refine x_then ?_ | refine x_blk ?_))
      exact x_nx (i + 1) (by rw [Nat.pow_succ]; exact sB) om (fun w' c' => c') om
    · have : i = n := by omega
      subst this
      repeat' (first | (show oL; first | refine sMv rfl rfl ?_ | refine sAs rfl rfl ?_ | refine sLs rfl rfl rfl ?_) | refine xNt ?_ | (show oC; first | refine c_seq ?_ | refine c_region ?_ | refine c_ret ?_ | refine c_exit ?_ | refine c_iff rfl nN ?_) | (show AT _ _ _ _; first | refine x_then ?_ | refine x_then_exit ?_ | refine x_blk_exit rfl ?_))
      exact x_ret1 Tryz.results76 (res_tmp rfl) (fun w' c' => ⟨_, _, rfl, ⟨rfl, rfl⟩, c'⟩)
theorem y_quon {P : Program} {n : Nat} {C : World → Prop} {s : List (Nat × Value)} {x y : Operand} {t t' ty : Nat} {p q : Int} {a b : Nat} (hx : ev s x = some (.int .i64 p)) (hy : ev s y = some (.int .i64 q)) (hp : p = (a : Int)) (hq : q = (b : Int)) (hb : 0 < b) (ha : a ≤ 9223372036854775807) : Y P n C s (.binOp .quo t x y t') ty (.int .i64 ((a / b : Nat) : Int)) := by
  subst hp; subst hq
  have := y_quo (P := P) (n := n) (C := C) (s := s) (t := t) (t' := t') (ty := ty) hx hy om
  have e : (a : Int).tdiv (b : Int) = ((a / b : Nat) : Int) := by rw [Int.tdiv_eq_ediv_of_nonneg om]; rfl
  have h2 := Nat.div_le_self a b
  rw [e, IntKind.wrap_i64] at this
  generalize a / b = d at h2 this ⊢
  rwa [show ((d : Int) + 9223372036854775808) % 18446744073709551616 - 9223372036854775808 = (d : Int) by omega] at this
theorem cs_bd {p n : Nat} (hp : p ∈ [2, 3, 5]) (hn : n ∈ [0, 1, 2, 3, 4]) {k : Nat} (hk : k ≤ n) : csA p n k / csB p k = csI p n k ∧ csA p n k ≤ 100000000 ∧ csB p k ≤ 100000000 ∧ 0 < csB p k ∧ csI p n k ≤ 1000000 ∧ (k < n → csI p n k * (p ^ (n - k) - 1) ≤ 100000000) := cs_all p hp n hn k (List.mem_range.2 om)
theorem mem_le {p n : Nat} (hp : p ∈ [2, 3, 5]) (hn : n ∈ [0, 1, 2, 3, 4]) : 2 ≤ p ∧ p ≤ 5 ∧ n ≤ 4 := by
  simp only [List.mem_cons, List.not_mem_nil, or_false] at hp hn
  omega
theorem pow_pos2 {p i : Nat} (hp : 2 ≤ p) : 2 ≤ p ^ (i + 1) := by
  have : 0 < p ^ i := Nat.pow_pos om
  rw [Nat.pow_succ]
  have := Nat.mul_le_mul this hp
  omega
theorem impl_CountSpaces_ok {w : World} {p n k : Int} : Does Tryz.prog 16 [iV p, iV n, iV k] w (fun v H => v = iV (csF p n k) ∧ H = []) := by
  refine fn_enter Tryz.func16 rfl Tryz.ntmps16 rfl ?_
  by_cases hP : CsP p n k
  · rw [csF, if_pos hP]
    obtain ⟨p, n, k, rfl, rfl, rfl, hp, hn, hk⟩ := hP.nat
    obtain ⟨hF, hN, hK⟩ := hP
    obtain ⟨p2, p5, n4⟩ := mem_le hp hn
    simp only [Int.toNat_natCast]
    repeat' (first | (show oL; first | refine sMv rfl rfl ?_ | refine sAs rfl rfl ?_ | (show oA (.unOp _ _ _); refine st_y (y_notd rfl) rfl ?_) | (show oA (.call _); first | (refine m_call (ent_of Tryz.func45 kr rfl) rfl rfl (fun w c => impl_IsField_ok _) ?_; rintro v H' ⟨rfl, rfl⟩) | (refine m_call (ent_of Tryz.func51 kr rfl) rfl rfl (fun w c => within_ok _ _ _) ?_; rintro v H' ⟨rfl, rfl⟩)) | (show oA (.pick _ _ _); first | refine st_y (y_pickt rfl aO rfl) rfl ?_ | refine st_y (y_pickf rfl aO rfl) rfl ?_ | refine st_y (y_pick rfl rfl rfl) rfl ?_) | refine st_gn rfl rfl rfl ?_ | refine st_gfy rfl rfl aO ?_ | refine st_gfn rfl rfl aO rfl ?_ | refine st_gd rfl rfl (fun h => ?_) (fun h => ?_)) | refine xNt ?_ | (show oC; first | refine c_seq ?_ | refine c_region ?_ | refine c_skip (x_then ?_) | refine c_block ?_ | refine c_ret ?_ | refine c_true rfl ?_ | refine c_iff rfl nN ?_) | (show AT _ _ _ _; refine x_then_ret ?_))
    all_goals first | exact absurd hF aS | exact absurd hN aS | exact absurd hK aS | skip
    refine c_loopH (α := Nat) [0, 1, 23] (fun i => [(7, iV ((csI p n i : Nat) : Int)), (24, .int .i64 i)]) (fun i => i ≤ k) (fun i => []) (fun i => k - i) 0 rfl sB ?_ ?_ ?_
    · exact Nat.zero_le _
    · exact fun w' c' => c'
    · intro i hi
      by_cases hin : i < k
      · obtain ⟨_, _, _, _, b1, b2⟩ := cs_bd hp hn (show i ≤ n by omega)
        have b3 := b2 om
        have q1 := pow_le p5 (show n - i ≤ 8 by omega)
        have q2 := pow_le p5 (show i + 1 ≤ 8 by omega)
        have q3 : 0 < p ^ (n - i) := Nat.pow_pos om
        have q4 := pow_pos2 (i := i) p2
        have e1 : (n : Int) - (i : Int) = ((n - i : Nat) : Int) := by omega
        have e2 : (i : Int) + 1 = ((i + 1 : Nat) : Int) := by omega
        repeat' (first | (show oL; first | refine sMv rfl rfl ?_ | refine sAs rfl rfl ?_ | (show oA (.binOp _ _ _ _ _); first | refine st_y (y_muln (a := csI p n i) (b := p ^ (n - i) - 1) rfl rfl rfl om om) rfl ?_ | refine st_y (y_quon (a := csI p n i * (p ^ (n - i) - 1)) (b := p ^ (i + 1) - 1) rfl rfl rfl om om om) rfl ?_ | refine sAd rfl rfl om rfl ?_ | refine st_y (y_sub rfl rfl om) rfl ?_ | refine sLs rfl rfl rfl ?_) | (show oA (.call _); first | (refine m_call (ent_of Tryz.func54 kr rfl) rfl rfl (fun w c => by rw [e1]; exact power_ok p5 om) ?_; rintro v H' ⟨rfl, rfl⟩) | (refine m_call (ent_of Tryz.func54 kr rfl) rfl rfl (fun w c => by rw [e2]; exact power_ok p5 om) ?_; rintro v H' ⟨rfl, rfl⟩))) | (show oN; first | refine c_nil (x_then ?_) | refine c_nil ?_) | (show oC; first | refine c_seq ?_ | refine c_region ?_ | refine c_skip (x_then ?_) | refine c_block ?_ | refine c_ift rfl aO ?_) | (show AT _ _ _ _; first | refine x_then ?_ | refine x_blk ?_))
        exact x_nx (i + 1) (by rw [csI]; exact sB) om (fun w' c' => c') om
      · have : i = k := by omega
        subst this
        repeat' (first | (show oL; first | refine sMv rfl rfl ?_ | refine sAs rfl rfl ?_ | refine sLs rfl rfl rfl ?_) | refine xNt ?_ | (show oC; first | refine c_seq ?_ | refine c_region ?_ | refine c_ret ?_ | refine c_exit ?_ | refine c_iff rfl nN ?_) | (show AT _ _ _ _; first | refine x_then ?_ | refine x_then_exit ?_ | refine x_blk_exit rfl ?_))
        exact x_ret1 Tryz.results16 (res_tmp rfl) (fun w' c' => ⟨_, _, rfl, ⟨rfl, rfl⟩, c'⟩)
  · rw [csF, if_neg hP]
    repeat' (first | (show oL; first | refine sMv rfl rfl ?_ | refine sAs rfl rfl ?_ | (show oA (.unOp _ _ _); refine st_y (y_notd rfl) rfl ?_) | (show oA (.call _); first | (refine m_call (ent_of Tryz.func45 kr rfl) rfl rfl (fun w c => impl_IsField_ok _) ?_; rintro v H' ⟨rfl, rfl⟩) | (refine m_call (ent_of Tryz.func51 kr rfl) rfl rfl (fun w c => within_ok _ _ _) ?_; rintro v H' ⟨rfl, rfl⟩)) | (show oA (.pick _ _ _); first | refine st_y (y_pickt rfl aO rfl) rfl ?_ | refine st_y (y_pickf rfl aO rfl) rfl ?_ | refine st_y (y_pick rfl rfl rfl) rfl ?_) | refine st_gn rfl rfl rfl ?_ | refine st_gfy rfl rfl aO ?_ | refine st_gfn rfl rfl aO rfl ?_ | refine st_gd rfl rfl (fun h => ?_) (fun h => ?_)) | refine xNt ?_ | (show oC; first | refine c_seq ?_ | refine c_region ?_ | refine c_skip (x_then ?_) | refine c_block ?_ | refine c_ret ?_ | refine c_true rfl ?_ | refine c_ifnd rfl (fun h => ?_) (fun h => ?_)) | (show AT _ _ _ _; refine x_then_ret ?_))
    all_goals first
      | exact x_ret1 Tryz.results16 (res_tmp rfl) (fun w' c' => ⟨_, _, rfl, ⟨rfl, rfl⟩, c'⟩)
      | exact absurd ⟨by first | assumption | exact Decidable.not_not.1 aS, by first | assumption | exact Decidable.not_not.1 aS, by first | assumption | exact Decidable.not_not.1 aS⟩ hP
theorem spec_CountSpaces_ok {w : World} {p n k : Int} : Does Tryz.prog 33 [iV p, iV n, iV k] w (fun v H => v = iV (csF p n k) ∧ H = []) := by
  refine fn_enter Tryz.func33 rfl Tryz.ntmps33 rfl ?_
  by_cases hP : CsP p n k
  · rw [csF, if_pos hP]
    obtain ⟨p, n, k, rfl, rfl, rfl, hp, hn, hk⟩ := hP.nat
    obtain ⟨hF, hN, hK⟩ := hP
    obtain ⟨p2, p5, n4⟩ := mem_le hp hn
    simp only [Int.toNat_natCast]
    repeat' (first | (show oL; first | refine sMv rfl rfl ?_ | refine sAs rfl rfl ?_ | (show oA (.unOp _ _ _); refine st_y (y_notd rfl) rfl ?_) | (show oA (.call _); first | (refine m_call (ent_of Tryz.func74 kr rfl) rfl rfl (fun w c => spec_IsField_ok _) ?_; rintro v H' ⟨rfl, rfl⟩) | (refine m_call (ent_of Tryz.func75 kr rfl) rfl rfl (fun w c => l1In_ok _ _ _) ?_; rintro v H' ⟨rfl, rfl⟩)) | (show oA (.pick _ _ _); first | refine st_y (y_pickt rfl aO rfl) rfl ?_ | refine st_y (y_pickf rfl aO rfl) rfl ?_ | refine st_y (y_pick rfl rfl rfl) rfl ?_) | refine st_gn rfl rfl rfl ?_ | refine st_gfy rfl rfl aO ?_ | refine st_gfn rfl rfl aO rfl ?_ | refine st_gd rfl rfl (fun h => ?_) (fun h => ?_)) | refine xNt ?_ | (show oC; first | refine c_seq ?_ | refine c_region ?_ | refine c_skip (x_then ?_) | refine c_block ?_ | refine c_ret ?_ | refine c_true rfl ?_ | refine c_iff rfl nN ?_) | (show AT _ _ _ _; refine x_then_ret ?_))
    all_goals first | exact absurd hF aS | exact absurd hN aS | exact absurd hK aS | skip
    refine c_loopH (α := Nat) [0, 1, 2] (fun i => [(7, iV ((csA p n i : Nat) : Int)), (8, iV ((csB p i : Nat) : Int)), (9, .int .i64 i)]) (fun i => i ≤ k) (fun i => []) (fun i => k - i) 0 rfl sB ?_ ?_ ?_
    · exact Nat.zero_le _
    · exact fun w' c' => c'
    · intro i hi
      obtain ⟨b0, b1, b2, b3, _, _⟩ := cs_bd hp hn (show i ≤ n by omega)
      by_cases hin : i < k
      · obtain ⟨_, c1, c2, _, _, _⟩ := cs_bd hp hn (show i + 1 ≤ n by omega)
        rw [csA] at c1
        rw [csB] at c2
        have q3 : 0 < p ^ (n - i) := Nat.pow_pos om
        have q4 := pow_pos2 (i := i) p2
        have e1 : (n : Int) - (i : Int) = ((n - i : Nat) : Int) := by omega
        have e2 : (i : Int) + 1 = ((i + 1 : Nat) : Int) := by omega
        have q1 := pow_le p5 (show n - i ≤ 8 by omega)
        have q2 := pow_le p5 (show i + 1 ≤ 8 by omega)
        repeat' (first | (show oL; first | refine sMv rfl rfl ?_ | refine sAs rfl rfl ?_ | (show oA (.binOp _ _ _ _ _); first | refine st_y (y_muln (a := csA p n i) (b := p ^ (n - i) - 1) rfl rfl rfl om om) rfl ?_ | refine st_y (y_muln (a := csB p i) (b := p ^ (i + 1) - 1) rfl rfl rfl om om) rfl ?_ | refine sAd rfl rfl om rfl ?_ | refine st_y (y_sub rfl rfl om) rfl ?_ | refine sLs rfl rfl rfl ?_) | (show oA (.call _); first | (refine m_call (ent_of Tryz.func76 kr rfl) rfl rfl (fun w c => by rw [e1]; exact l5Power_ok p5 om) ?_; rintro v H' ⟨rfl, rfl⟩) | (refine m_call (ent_of Tryz.func76 kr rfl) rfl rfl (fun w c => by rw [e2]; exact l5Power_ok p5 om) ?_; rintro v H' ⟨rfl, rfl⟩))) | (show oN; first | refine c_nil (x_then ?_) | refine c_nil ?_) | (show oC; first | refine c_seq ?_ | refine c_region ?_ | refine c_skip (x_then ?_) | refine c_block ?_ | refine c_ift rfl aO ?_) | (show AT _ _ _ _; first | refine x_then ?_ | refine x_blk ?_))
        exact x_nx (i + 1) (by rw [csA, csB]; exact sB) om (fun w' c' => c') om
      · have : i = k := by omega
        subst this
        repeat' (first | (show oL; first | refine sMv rfl rfl ?_ | refine sAs rfl rfl ?_ | (show oA (.binOp _ _ _ _ _); first | refine st_y (y_quon (a := csA p n i) (b := csB p i) rfl rfl rfl rfl om om) rfl ?_ | refine sLs rfl rfl rfl ?_)) | refine xNt ?_ | (show oC; first | refine c_seq ?_ | refine c_region ?_ | refine c_ret ?_ | refine c_exit ?_ | refine c_iff rfl nN ?_) | (show AT _ _ _ _; first | refine x_then ?_ | refine x_then_exit ?_ | refine x_blk_exit rfl ?_))
        rw [b0]
        exact x_ret1 Tryz.results33 (res_tmp rfl) (fun w' c' => ⟨_, _, rfl, ⟨rfl, rfl⟩, c'⟩)
  · rw [csF, if_neg hP]
    repeat' (first | (show oL; first | refine sMv rfl rfl ?_ | refine sAs rfl rfl ?_ | (show oA (.unOp _ _ _); refine st_y (y_notd rfl) rfl ?_) | (show oA (.call _); first | (refine m_call (ent_of Tryz.func74 kr rfl) rfl rfl (fun w c => spec_IsField_ok _) ?_; rintro v H' ⟨rfl, rfl⟩) | (refine m_call (ent_of Tryz.func75 kr rfl) rfl rfl (fun w c => l1In_ok _ _ _) ?_; rintro v H' ⟨rfl, rfl⟩)) | (show oA (.pick _ _ _); first | refine st_y (y_pickt rfl aO rfl) rfl ?_ | refine st_y (y_pickf rfl aO rfl) rfl ?_ | refine st_y (y_pick rfl rfl rfl) rfl ?_) | refine st_gn rfl rfl rfl ?_ | refine st_gfy rfl rfl aO ?_ | refine st_gfn rfl rfl aO rfl ?_ | refine st_gd rfl rfl (fun h => ?_) (fun h => ?_)) | refine xNt ?_ | (show oC; first | refine c_seq ?_ | refine c_region ?_ | refine c_skip (x_then ?_) | refine c_block ?_ | refine c_ret ?_ | refine c_true rfl ?_ | refine c_ifnd rfl (fun h => ?_) (fun h => ?_)) | (show AT _ _ _ _; refine x_then_ret ?_))
    all_goals first
      | exact x_ret1 Tryz.results33 (res_tmp rfl) (fun w' c' => ⟨_, _, rfl, ⟨rfl, rfl⟩, c'⟩)
      | exact absurd ⟨by first | assumption | exact Decidable.not_not.1 aS, by first | assumption | exact Decidable.not_not.1 aS, by first | assumption | exact Decidable.not_not.1 aS⟩ hP
end Go.Proofs.YtcplmeajmpkpkaaGreat
