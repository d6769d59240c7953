import Derived.Test.YtljgmmmgnfgbhaaLCqel
import Derived.Test.YtljgmmmgnfgbhaaRdSqel
namespace Go.Proofs.Ytljgmmmgnfgbhaa
open Go.Lg Go.Proofs Go.RowKit
attribute [local irreducible] Code.wp wpList bodyPost Exit.then Exit.inBlock Hp Again Calls Y AT ResV QT Qn QI wpAny wpAnyQ
set_option maxRecDepth 20000
set_option maxHeartbeats 4000000

/-! ### a multiple of a vector is added in place -/
def addTo (p k : Int) (xs : List Int) (o : Nat) (ys : List Int) : Nat → List Int
  | 0 => xs
  | i + 1 => (addTo p k xs o ys i).set (o + i) ((xs.getD (o + i) 0 + k * ys.getD i 0) % p)
@[simp] theorem addTo_length {p k : Int} {xs : List Int} {o : Nat} {ys : List Int} : ∀ i, (addTo p k xs o ys i).length = xs.length
  | 0 => rfl
  | i + 1 => by simp [addTo, addTo_length i]
theorem addTo_get {p k : Int} {xs : List Int} {o : Nat} {ys : List Int} : ∀ i q, (q < o ∨ o + i ≤ q) → (addTo p k xs o ys i).getD q 0 = xs.getD q 0
  | 0, q, _ => rfl
  | i + 1, q, h => by
    simp only [addTo, List.getD, List.getElem?_set]
    rw [if_neg (by omega)]
    exact addTo_get i q (by omega)
theorem addMultiple_ok {w1 : World} {M1 : List Nat} {H1 : List HE} {w : World} {M' : List Nat} {p k : Int} {xs ys : List Int} {a0 aa b : Option Addr} {m c n ca cb o : Nat} (hF : FieldP p) (hk : 0 ≤ k ∧ k ≤ 5)
    (hl : Lent M1 w1 (.own (iT xs) (.slice a0 m c)) H1 M' w) (haa : 0 < n → aa = some ⟨ab a0, ao a0 + o, none⟩) (hxn : o + n ≤ xs.length) (hn : n ≤ 1048576) (hx : ∀ j, j < n → 0 ≤ xs.getD (o + j) 0 ∧ xs.getD (o + j) 0 ≤ 5) (hy : ∀ j, j < n → 0 ≤ ys.getD j 0 ∧ ys.getD j 0 ≤ 5) (hsb : SA b n)
    (hb : ∀ w' xs', Hp M' w [.own (iT xs') (.slice a0 m c)] w' → xs'.length = xs.length → (∀ q, q < o ∨ o + n ≤ q → xs'.getD q 0 = xs.getD q 0) → ∀ j, j < n → w'.cell? ⟨ab b, ao b + j, none⟩ = some (iV (ys.getD j 0))) :
    DoesB Try.prog 105 [iV p, .slice aa n ca, iV k, .slice b n cb] w M' (fun v H => v = .slice aa n ca ∧ H = [.own (iT (addTo p k xs o ys n)) (.slice a0 m c)]) := by
  have ⟨hp1, hp2⟩ := fieldP_pos hF
  refine fnb_lent Try.func105 rfl Try.ntmps105 rfl hl ?_
  repeat' (first
    | (show AT _ _ _ (wpList _ _ _ (_ :: _)); first
       | (show AT _ _ _ (wpList _ _ _ (⟨_, Op.move _, _, _, _, _⟩ :: _)); refine st_y (y_move rfl) rfl ?_)
       | (show AT _ _ _ (wpList _ _ _ (⟨_, Op.assign _, _, _, _, _⟩ :: _)); refine st_y (y_assign rfl) rfl ?_)
       | (show AT _ _ _ (wpList _ _ _ (⟨_, Op.call _, _, _, _, _⟩ :: _)); refine st_y (y_len tabs rfl rfl) rfl ?_))
    | (show AT _ _ _ (wpList _ _ _ []); refine c_nil (x_then ?_))
    | (show AT _ _ _ (Code.wp _ _ _); first | refine c_seq ?_ | refine c_region ?_ | refine c_block ?_))
  refine c_loopH (α := Nat) [0, 1, 2, 11, 12] (fun i => [(13, .int .i64 i)]) (fun i => i ≤ n) (fun i => [.own (iT (addTo p k xs o ys i)) (.slice a0 m c)]) (fun i => n - i) 0 rfl (by repeat' (first | exact Sub.nil | refine Sub.cons rfl ?_ | refine Sub.consi rfl (by omega) ?_)) ?_ ?_ ?_
  · omega
  · exact fun w' c' => c'
  · intro i hi
    by_cases hin : i < n
    · obtain rfl := haa (by omega)
      have hv1 : (addTo p k xs o ys i).getD (o + i) 0 = xs.getD (o + i) 0 := addTo_get i _ (by omega)
      have hx1 := hx i hin
      have hy1 := hy i hin
      have hmb := mul_small (a := k) (b := ys.getD i 0) (by omega) hy1
      have hcell : ∀ w', Hp M' w [.own (iT (addTo p k xs o ys i)) (.slice a0 m c)] w' → w'.cell? ⟨ab a0, ao a0 + o + i, none⟩ = some (iV (xs.getD (o + i) 0)) := fun w' c' => by
        have := hc_own (M := M') (w0 := w) 0 (H := [.own (iT (addTo p k xs o ys i)) (.slice a0 m c)]) rfl (j := o + i) (by simp; omega) w' c'
        rw [hv1] at this
        rwa [Nat.add_assoc]
      repeat' (first
        | (show AT _ _ _ (wpList _ _ _ (_ :: _)); first
           | (show AT _ _ _ (wpList _ _ _ (⟨_, Op.move _, _, _, _, _⟩ :: _)); refine st_y (y_move rfl) rfl ?_)
           | (show AT _ _ _ (wpList _ _ _ (⟨_, Op.assign _, _, _, _, _⟩ :: _)); refine st_y (y_assign rfl) rfl ?_)
           | (show AT _ _ _ (wpList _ _ _ (⟨_, Op.load _ _, _, _, _, _⟩ :: _)); first | refine st_y (y_load tabs rfl rfl (fun w' c' => hb w' _ c' (by simp) (fun q hq => addTo_get i q (by omega)) i hin)) rfl ?_ | refine st_y (y_load tabs rfl rfl hcell) rfl ?_)
           | (show AT _ _ _ (wpList _ _ _ (⟨_, Op.indexAddr _ _ _, _, _, _, _⟩ :: _)); first | refine st_y (y_ix1 tabs (j := i) rfl rfl rfl hsb rfl hin) rfl ?_ | refine st_y (y_ixs tabs (j := i) rfl rfl rfl rfl hin) rfl ?_)
           | (show AT _ _ _ (wpList _ _ _ (⟨_, Op.binOp _ _ _ _ _, _, _, _, _⟩ :: _)); first | refine st_y (y_mul rfl rfl (by omega)) rfl ?_ | refine st_y (y_rem rfl rfl (by omega)) rfl ?_ | refine st_y (y_add rfl rfl (by omega)) rfl ?_ | refine st_y (y_lss rfl rfl) rfl ?_)
           | (show AT _ _ _ (wpList _ _ _ (⟨_, Op.store _ _ _, _, _, _, _⟩ :: _)); refine m_storeo 0 (j := o + i) tabs rfl (by rw [← Nat.add_assoc]; rfl) rfl rfl (by simp; omega) ?_))
        | (show AT _ _ _ (wpList _ _ _ []); first | refine c_nil (x_then ?_) | refine c_nil ?_)
        | (show AT _ _ _ (Code.wp _ _ _); first | refine c_seq ?_ | refine c_region ?_ | refine c_skip (x_then ?_) | refine c_block ?_ | refine c_ift rfl (by first | assumption | omega) ?_)
        | (show AT _ _ _ _; first | refine x_then ?_ | refine x_blk ?_))
      refine x_nx (i + 1) (by repeat' (first | exact Sub.nil | refine Sub.cons rfl ?_ | refine Sub.consi rfl (by omega) ?_)) (by omega) (fun w' c' => ?_) (by omega)
      simp only [List.set_cons_zero] at c'
      rw [tmod_pos (by omega)] at c'
      exact c'
    · have : i = n := by omega
      subst this
      repeat' (first
        | (show AT _ _ _ (wpList _ _ _ (_ :: _)); first
           | (show AT _ _ _ (wpList _ _ _ (⟨_, Op.move _, _, _, _, _⟩ :: _)); refine st_y (y_move rfl) rfl ?_)
           | (show AT _ _ _ (wpList _ _ _ (⟨_, Op.assign _, _, _, _, _⟩ :: _)); refine st_y (y_assign rfl) rfl ?_)
           | (show AT _ _ _ (wpList _ _ _ (⟨_, Op.binOp _ _ _ _ _, _, _, _, _⟩ :: _)); refine st_y (y_lss rfl rfl) rfl ?_))
        | (show AT _ _ _ (wpList _ _ _ []); refine c_nil (x_then ?_))
        | (show AT _ _ _ (Code.wp _ _ _); first | refine c_seq ?_ | refine c_region ?_ | refine c_ret ?_ | refine c_exit ?_ | refine c_iff rfl (by first | assumption | exact not_not_intro (by assumption) | omega) ?_)
        | (show AT _ _ _ _; first | refine x_then ?_ | refine x_then_exit ?_ | refine x_blk_exit rfl ?_))
      exact x_ret1 Try.results105 (res_tmp rfl) (fun w' c' => ⟨_, _, rfl, ⟨rfl, rfl⟩, c'⟩)

/-! ### reduction, as the program does it -/
theorem row_at {w : World} {R C i cap : Nat} {a : Option Addr} (hs : SA a (R * C)) (hR : R ≤ 1024) (hC : 0 < C ∧ C ≤ 1024) (hi : i < R) (hcap : R * C ≤ cap) :
    Does Try.prog 101 [.agg #[iV R, iV C, .slice a (R * C) cap], iV i] w (fun r H => r = .slice (some ⟨ab a, ao a + i * C, none⟩) C (cap - i * C) ∧ H = []) := by
  have h1 : 0 < R * C := Nat.mul_pos (by omega) hC.1
  have e := hs.get h1
  have := row_ok (w := w) (g := ab a) (o := ao a) hR hC hi hcap
  rw [← e] at this
  exact this
theorem hc_mkr {M : List Nat} {w0 : World} {H : List HE} (i : Nat) {e R C r c : Nat} {f : Nat → Nat → Int} {a : Option Addr} {m cc : Nat} (hi : H[i]? = some (.own (ints e (mk R C f)) (.slice a m cc))) (hr : r < R) (hc : c < C) :
    ∀ w, Hp M w0 H w → w.cell? ⟨ab a, ao a + r * C + c, none⟩ = some (.int .i64 (f r c)) := fun w cw => by
  have := hc_mk i hi hr hc w cw
  rwa [← Nat.add_assoc] at this
theorem own_cap (i : Nat) {M : List Nat} {w0 : World} {H : List HE} {e : Nat} {xs : List Int} {a : Option Addr} {m c : Nat} (hi : H[i]? = some (.own (ints e xs) (.slice a m c))) : ∀ w, Hp M w0 H w → xs.length ≤ c := fun w cw => by
  obtain ⟨a', c', h1, _, h2, _⟩ := (cw.own_rd hi).ints
  cases h1; exact h2
/-- a row to which a multiple of another is added -/
theorem addTo_mk {p k : Int} {R C i : Nat} {f : Nat → Nat → Int} {ys : List Int} (hi : i < R) : ∀ n, n ≤ C → addTo p k (mk R C f) (i * C) ys n = mk R C (fun a b => if a = i ∧ b < n then (f i b + k * ys.getD b 0) % p else f a b)
  | 0, _ => by simp [addTo]
  | n + 1, h => by
    simp only [addTo]
    rw [addTo_mk hi n (by omega), mk_get hi (by omega), mk_set hi (by omega)]
    congr 1
    funext a b
    unfold upd
    grind
theorem elim_eq {p x f t : Int} : (x + (p - f) * t) % p = (x - f * t) % p := by
  have : x + (p - f) * t = x - f * t + p * t := by rw [Int.sub_mul]; omega
  rw [this, Int.add_mul_emod_self_left]

theorem reduce_ok {w : World} {p : Int} {m : Mat} {u : Value} (hr : Rd w (iT m.2.2) u) (hm : MatG p m) :
    Does Try.prog 68 [iV p, .agg #[iV m.1, iV m.2.1, u]] w (GivesRed (redM p m) (redL p m)) := by
  obtain ⟨r, c, xs⟩ := m
  obtain ⟨hF, ⟨hR0, hR8⟩, ⟨hC0, hC8⟩, hlen, hin⟩ := hm
  simp only at hr hR0 hR8 hC0 hC8 hlen hin ⊢
  obtain ⟨R, rfl⟩ := Int.eq_ofNat_of_zero_le hR0
  obtain ⟨C, rfl⟩ := Int.eq_ofNat_of_zero_le hC0
  have ⟨hp1, hp2⟩ := fieldP_pos hF
  have hlen' : xs.length = R * C := by rw [← Int.natCast_mul] at hlen; omega
  have hf0 : xs = mk R C (matF (↑R, ↑C, xs)) := mk_of hlen'
  have hin0 : inF p R C (matF (↑R, ↑C, xs)) := fun i j hi hj => by
    have := inP_get hin (i := i * C + j) (by rw [hlen']; exact cell_lt hi hj)
    simp only [matF, Int.toNat_natCast]; omega
  generalize hf : matF (↑R, ↑C, xs) = f0 at hf0 hin0
  have hRC : R * C ≤ 1048576 := matG_size hR8 hC8
  refine fn_enter Try.func68 rfl Try.ntmps68 rfl ?_
  repeat' (first
    | (show AT _ _ _ (wpList _ _ _ (_ :: _)); first
       | (show AT _ _ _ (wpList _ _ _ (⟨_, Op.move _, _, _, _, _⟩ :: _)); refine st_y (y_move rfl) rfl ?_)
       | (show AT _ _ _ (wpList _ _ _ (⟨_, Op.assign _, _, _, _, _⟩ :: _)); refine st_y (y_assign rfl) rfl ?_)
       | (show AT _ _ _ (wpList _ _ _ (⟨_, Op.fieldAddr _ _ _, _, _, _, _⟩ :: _)); refine st_y (y_field tabs rfl rfl rfl) rfl ?_)
       | (show AT _ _ _ (wpList _ _ _ (⟨_, Op.load _ _, _, _, _, _⟩ :: _)); first | refine st_y (y_load tabs rfl rfl (hc_blk 2 rfl rfl)) rfl ?_ | refine st_y (y_loadb 1 tabs rfl rfl rfl rfl) rfl ?_)
       | (show AT _ _ _ (wpList _ _ _ (⟨_, Op.call _, _, _, _, _⟩ :: _)); (refine m_call (ent_of Try.func103 (by kernel_rfl) rfl) rfl rfl (fun w c => clone_ok (m := (↑R, ↑C, xs)) (c.rd hr) (show xs.length ≤ 1048576 by omega)) ?_; rintro v H' ⟨ac, cc, rfl, hsc, rfl⟩))
       | (show AT _ _ _ (wpList _ _ _ (⟨_, Op.store _ _ _, _, _, _, _⟩ :: _)); refine m_storeb 2 tabs rfl rfl rfl rfl rfl rfl rfl ?_)
       | (show AT _ _ _ (wpList _ _ _ (⟨_, Op.box _ _, _, _, _, _⟩ :: _)); refine m_box rfl rfl (fun b3 hb3 => ?_))
       | (show AT _ _ _ (wpList _ _ _ (⟨_, Op.alloc _, _, _, _, _⟩ :: _)); refine m_alloc tabs rfl rfl (fun b4 hb4 => ?_)))
    | (show AT _ _ _ (wpList _ _ _ []); refine c_nil (x_then ?_))
    | (show AT _ _ _ (Code.wp _ _ _); first | refine c_seq ?_ | refine c_region ?_ | refine c_block ?_))
  simp only at hsc
  rw [hlen'] at hsc ⊢
  refine AT.fact (own_cap 0 rfl) (fun hcap => ?_)
  rw [hlen'] at hcap
  rw [hf0]
  refine c_loopH (α := Nat × Option Addr × Nat) [0, 3, 4, 17] (fun q => [(6, .slice q.2.1 (redTo p R f0 q.1).2.length q.2.2), (18, .int .i64 q.1)]) (fun q => q.1 ≤ C) (fun q => [.own (iT (redTo p R f0 q.1).2) (.slice q.2.1 (redTo p R f0 q.1).2.length q.2.2), .own (iT (mk R C (redTo p R f0 q.1).1)) (.slice ac (R * C) cc), .blk b4 #[iV 0, iV 0, .slice none 0 0] 46, .blk b3 #[iV R, iV C, .slice ac (R * C) cc] 46]) (fun q => C - q.1) (0, none, 0) rfl (by repeat' (first | exact Sub.nil | refine Sub.cons rfl ?_ | refine Sub.consi rfl (by omega) ?_)) ?_ ?_ ?_
  · simp
  · exact fun w' c' => Hp.nilp _ _ c'
  · rintro ⟨k, al, cl⟩ hk
    simp only at hk ⊢
    obtain ⟨hin1, hlr⟩ := redTo_in (f := f0) (by omega) hin0 k
    generalize hst : redTo p R f0 k = st at hin1 hlr ⊢
    obtain ⟨f, piv⟩ := st
    simp only at hin1 hlr ⊢
    by_cases hkC : k < C
    · repeat' (first
        | (show AT _ _ _ (wpList _ _ _ (_ :: _)); first
           | (show AT _ _ _ (wpList _ _ _ (⟨_, Op.move _, _, _, _, _⟩ :: _)); refine st_y (y_move rfl) rfl ?_)
           | (show AT _ _ _ (wpList _ _ _ (⟨_, Op.assign _, _, _, _, _⟩ :: _)); refine st_y (y_assign rfl) rfl ?_)
           | (show AT _ _ _ (wpList _ _ _ (⟨_, Op.binOp _ _ _ _ _, _, _, _, _⟩ :: _)); refine st_y (y_lss rfl rfl) rfl ?_)
           | (show AT _ _ _ (wpList _ _ _ (⟨_, Op.call _, _, _, _, _⟩ :: _)); refine st_y (y_len tabs rfl rfl) rfl ?_))
        | (show AT _ _ _ (wpList _ _ _ []); refine c_nil (x_then ?_))
        | (show AT _ _ _ (Code.wp _ _ _); first | refine c_seq ?_ | refine c_region ?_ | refine c_skip (x_then ?_) | refine c_block ?_ | refine c_ift rfl (by first | assumption | omega) ?_))
      -- the search
      refine c_loopH (α := Nat) [0, 3, 4, 6, 7, 17, 18] (fun t => [(8, .int .i64 t)]) (fun t => (piv.length ≤ t ∧ t ≤ R) ∧ ∀ i, piv.length ≤ i → i < t → f i k = 0) (fun t => [.own (iT piv) (.slice al piv.length cl), .own (iT (mk R C f)) (.slice ac (R * C) cc), .blk b4 #[iV 0, iV 0, .slice none 0 0] 46, .blk b3 #[iV R, iV C, .slice ac (R * C) cc] 46]) (fun t => R - t) piv.length rfl (by repeat' (first | exact Sub.nil | refine Sub.cons rfl ?_ | refine Sub.consi rfl (by omega) ?_)) ?_ ?_ ?_
      · exact ⟨⟨Nat.le_refl _, hlr⟩, fun i h1 h2 => by omega⟩
      · exact fun w' c' => c'
      · rintro t ⟨⟨ht1, ht2⟩, htz⟩
        by_cases htR : t < R
        · have htR' : (t : Int) < R := by omega
          repeat' (first
            | (show AT _ _ _ (wpList _ _ _ (_ :: _)); first
               | (show AT _ _ _ (wpList _ _ _ (⟨_, Op.move _, _, _, _, _⟩ :: _)); refine st_y (y_move rfl) rfl ?_)
               | (show AT _ _ _ (wpList _ _ _ (⟨_, Op.assign _, _, _, _, _⟩ :: _)); refine st_y (y_assign rfl) rfl ?_)
               | (show AT _ _ _ (wpList _ _ _ (⟨_, Op.fieldAddr _ _ _, _, _, _, _⟩ :: _)); refine st_y (y_field tabs rfl rfl rfl) rfl ?_)
               | (show AT _ _ _ (wpList _ _ _ (⟨_, Op.load _ _, _, _, _, _⟩ :: _)); first | refine st_y (y_load tabs rfl rfl (hc_mkr 1 rfl htR hkC)) rfl ?_ | refine st_y (y_load tabs rfl rfl (hc_blk 3 rfl rfl)) rfl ?_ | refine st_y (y_loadb 3 tabs rfl rfl rfl rfl) rfl ?_)
               | (show AT _ _ _ (wpList _ _ _ (⟨_, Op.indexAddr _ _ _, _, _, _, _⟩ :: _)); refine st_y (y_ixs tabs (j := k) rfl rfl rfl rfl hkC) rfl ?_)
               | (show AT _ _ _ (wpList _ _ _ (⟨_, Op.binOp _ _ _ _ _, _, _, _, _⟩ :: _)); first | refine st_y (y_add rfl rfl (by omega)) rfl ?_ | refine st_y (y_lss rfl rfl) rfl ?_ | refine st_y (y_eql rfl rfl) rfl ?_)
               | (show AT _ _ _ (wpList _ _ _ (⟨_, Op.call _, _, _, _, _⟩ :: _)); first | (refine m_call (ent_of Try.func101 (by kernel_rfl) rfl) rfl rfl (fun w c => row_at hsc (by omega) ⟨by omega, by omega⟩ htR hcap) ?_; rintro v H' ⟨rfl, rfl⟩) | refine st_y (y_len tabs rfl rfl) rfl ?_)
               | (show AT _ _ _ (wpList _ _ _ (⟨_, Op.pick _ _ _, _, _, _, _⟩ :: _)); refine st_y (y_pickt rfl (by assumption) rfl) rfl ?_)
               | refine st_gdy rfl rfl (by assumption) ?_)
            | (show AT _ _ _ (wpList _ _ _ []); first | refine c_nil (x_then ?_) | refine c_nil ?_)
            | (show AT _ _ _ (Code.wp _ _ _); first | refine c_seq ?_ | refine c_region ?_ | refine c_skip (x_then ?_) | refine c_block ?_ | refine c_exit ?_ | refine c_iff rfl (by first | assumption | exact not_not_intro (by assumption) | omega) ?_ | refine c_if rfl (fun h => ?_) (fun h => ?_))
            | (show AT _ _ _ _; first | refine x_then ?_ | refine x_then_exit ?_ | refine x_blk_exit rfl ?_ | refine x_blk ?_))
          · refine x_nx (t + 1) (by repeat' (first | exact Sub.nil | refine Sub.cons rfl ?_ | refine Sub.consi rfl (by omega) ?_)) ⟨by omega, fun i h1 h2 => ?_⟩ (fun w' c' => c') (by omega)
            by_cases hit : i = t
            · subst hit; assumption
            · exact htz i h1 (by omega)
          · have hz : f t k ≠ 0 := by assumption
            have hat : findAt f k R piv.length = t := findAt_eq htR ht1 hz htz
            have hnR : ¬ ((t : Int) = R) := by omega
            have hr1 : piv.length < R := by omega
            -- the swap
            repeat' (first
              | (show AT _ _ _ (wpList _ _ _ (_ :: _)); first
                 | (show AT _ _ _ (wpList _ _ _ (⟨_, Op.move _, _, _, _, _⟩ :: _)); refine st_y (y_move rfl) rfl ?_)
                 | (show AT _ _ _ (wpList _ _ _ (⟨_, Op.assign _, _, _, _, _⟩ :: _)); refine st_y (y_assign rfl) rfl ?_)
                 | (show AT _ _ _ (wpList _ _ _ (⟨_, Op.fieldAddr _ _ _, _, _, _, _⟩ :: _)); refine st_y (y_field tabs rfl rfl rfl) rfl ?_)
                 | (show AT _ _ _ (wpList _ _ _ (⟨_, Op.load _ _, _, _, _, _⟩ :: _)); refine st_y (y_load tabs rfl rfl (hc_blk 3 rfl rfl)) rfl ?_)
                 | (show AT _ _ _ (wpList _ _ _ (⟨_, Op.call _, _, _, _, _⟩ :: _)); (refine m_call (ent_of Try.func101 (by kernel_rfl) rfl) rfl rfl (fun w c => row_at hsc (by omega) ⟨by omega, by omega⟩ hr1 hcap) ?_; rintro v H' ⟨rfl, rfl⟩)))
              | (show AT _ _ _ (wpList _ _ _ []); refine c_nil (x_then ?_))
              | (show AT _ _ _ (Code.wp _ _ _); first | refine c_seq ?_ | refine c_region ?_ | refine c_block ?_))
            refine c_loopH (α := Nat) [0, 3, 4, 6, 7, 8, 9, 17, 18, 47] (fun j => [(48, .int .i64 j)]) (fun j => j ≤ C) (fun j => [.own (iT piv) (.slice al piv.length cl), .own (iT (mk R C (swapTo f piv.length t j))) (.slice ac (R * C) cc), .blk b4 #[iV 0, iV 0, .slice none 0 0] 46, .blk b3 #[iV R, iV C, .slice ac (R * C) cc] 46]) (fun j => C - j) 0 rfl (by repeat' (first | exact Sub.nil | refine Sub.cons rfl ?_ | refine Sub.consi rfl (by omega) ?_)) ?_ ?_ ?_
            · omega
            · intro w' c'
              have e0 : swapTo f piv.length t 0 = f := by funext i j; simp [swapTo]
              rwa [e0]
            · intro j hj
              by_cases hjc : j < C
              · have hjc' : (j : Int) < C := by omega
                have g1 : swapTo f piv.length t j t j = f t j := by simp [swapTo]
                have g2 : swapTo f piv.length t j piv.length j = f piv.length j := by simp [swapTo]
                repeat' (first
                  | (show AT _ _ _ (wpList _ _ _ (_ :: _)); first
                     | (show AT _ _ _ (wpList _ _ _ (⟨_, Op.move _, _, _, _, _⟩ :: _)); refine st_y (y_move rfl) rfl ?_)
                     | (show AT _ _ _ (wpList _ _ _ (⟨_, Op.assign _, _, _, _, _⟩ :: _)); refine st_y (y_assign rfl) rfl ?_)
                     | (show AT _ _ _ (wpList _ _ _ (⟨_, Op.binOp _ _ _ _ _, _, _, _, _⟩ :: _)); refine st_y (y_lss rfl rfl) rfl ?_))
                  | (show AT _ _ _ (wpList _ _ _ []); refine c_nil (x_then ?_))
                  | (show AT _ _ _ (Code.wp _ _ _); first | refine c_seq ?_ | refine c_region ?_ | refine c_skip (x_then ?_) | refine c_block ?_ | refine c_ift rfl (by first | assumption | omega) ?_))
                refine c_idx (by kernel_rfl) (fun _ c => Hp.drew c) ?_
                refine p_take 0 rfl (by kernel_rfl) (by kernel_rfl) (by kernel_rfl) (by exact y_move rfl) rfl ?_
                refine p_take 1 rfl (by kernel_rfl) (by kernel_rfl) (by kernel_rfl) (by exact y_move rfl) rfl ?_
                refine p_take 3 rfl (by kernel_rfl) (by kernel_rfl) (by kernel_rfl) (by exact y_move rfl) rfl ?_
                refine p_take 5 rfl (by kernel_rfl) (by kernel_rfl) (by kernel_rfl) (by exact y_move rfl) rfl ?_
                refine p_take 7 rfl (by kernel_rfl) (by kernel_rfl) (by kernel_rfl) (by exact y_move rfl) rfl ?_
                refine p_take 9 rfl (by kernel_rfl) (by kernel_rfl) (by kernel_rfl) (by exact y_move rfl) rfl ?_
                refine p_take 12 rfl (by kernel_rfl) (by kernel_rfl) (by kernel_rfl) (by exact y_move rfl) rfl ?_
                refine p_take 13 rfl (by kernel_rfl) (by kernel_rfl) (by kernel_rfl) (by exact y_move rfl) rfl ?_
                refine p_take 14 rfl (by kernel_rfl) (by kernel_rfl) (by kernel_rfl) (by exact y_ixs tabs (j := j) rfl rfl rfl rfl hjc) rfl ?_
                refine c_quiet 16 7 _ (l1 := #[true, true, false, true, false, true, false, true, false, true, false, false, true, true, true, false]) rfl rfl rfl rfl (by kernel_rfl) (by kernel_rfl) (by kernel_rfl) (by kernel_rfl) (by kernel_rfl) ?_
                refine i_y 2 rfl (by kernel_rfl) (by kernel_rfl) (by kernel_rfl) (by exact y_loadb 3 tabs rfl rfl rfl rfl) rfl ?_
                refine i_y 6 rfl (by kernel_rfl) (by kernel_rfl) (by kernel_rfl) (by exact y_loadb 3 tabs rfl rfl rfl rfl) rfl ?_
                refine i_call 4 rfl (by kernel_rfl) (by kernel_rfl) (by kernel_rfl) (ent_of Try.func101 (by kernel_rfl) rfl) rfl rfl (fun w c => row_at hsc (by omega) ⟨by omega, by omega⟩ htR hcap) (fun u H' h => h.1) ?_
                refine i_call 8 rfl (by kernel_rfl) (by kernel_rfl) (by kernel_rfl) (ent_of Try.func101 (by kernel_rfl) rfl) rfl rfl (fun w c => row_at hsc (by omega) ⟨by omega, by omega⟩ htR hcap) (fun u H' h => h.1) ?_
                refine i_y 10 rfl (by kernel_rfl) (by kernel_rfl) (by kernel_rfl) (by exact y_ixs tabs (j := j) rfl rfl rfl rfl hjc) rfl ?_
                refine i_y 11 rfl (by kernel_rfl) (by kernel_rfl) (by kernel_rfl) (by exact y_load tabs rfl rfl (hc_mkr 1 rfl htR hjc)) rfl ?_
                refine i_y 15 rfl (by kernel_rfl) (by kernel_rfl) (by kernel_rfl) (by exact y_load tabs rfl rfl (hc_mkr 1 rfl hr1 hjc)) rfl ?_
                refine i_tail (by kernel_rfl) ?_
                repeat' (first
                  | (show AT _ _ _ (wpList _ _ _ (_ :: _)); first
                     | (show AT _ _ _ (wpList _ _ _ (⟨_, Op.move _, _, _, _, _⟩ :: _)); refine st_y (y_move rfl) rfl ?_)
                     | (show AT _ _ _ (wpList _ _ _ (⟨_, Op.indexAddr _ _ _, _, _, _, _⟩ :: _)); refine st_y (y_ixs tabs (j := j) rfl rfl rfl rfl hjc) rfl ?_)
                     | (show AT _ _ _ (wpList _ _ _ (⟨_, Op.binOp _ _ _ _ _, _, _, _, _⟩ :: _)); refine st_y (y_add rfl rfl (by omega)) rfl ?_)
                     | (show AT _ _ _ (wpList _ _ _ (⟨_, Op.store _ _ _, _, _, _, _⟩ :: _)); first | refine m_storeo 1 (j := piv.length * C + j) tabs rfl (by rw [← Nat.add_assoc]; rfl) rfl rfl (by rw [mk_length]; exact cell_lt hr1 hjc) ?_ | refine m_storeo 1 (j := t * C + j) tabs rfl (by rw [← Nat.add_assoc]; rfl) rfl rfl (by rw [List.length_set, mk_length]; exact cell_lt htR hjc) ?_))
                  | (show AT _ _ _ (wpList _ _ _ []); first | refine c_nil (x_then ?_) | refine c_nil (x_qn ?_))
                  | (show AT _ _ _ (Code.wp _ _ _); refine c_region ?_)
                  | (show AT _ _ _ _; first | refine x_then ?_ | refine x_blk ?_))
                refine x_nx (j + 1) (by repeat' (first | exact Sub.nil | refine Sub.cons rfl ?_ | refine Sub.consi rfl (by omega) ?_)) (by omega) (fun w' c' => ?_) (by omega)
                simp only [List.set_cons_succ, List.set_cons_zero, g1, g2] at c'
                rw [mk_set (by omega) hjc, mk_set htR hjc, swapTo_next] at c'
                exact c'
              · have hjC : j = C := by omega
                have hsw : mk R C (swapTo f piv.length t j) = mk R C (swapF f piv.length t) := mk_ext (fun i c hi hc => by simp only [swapTo]; rw [if_pos (by omega)])
                rw [hsw]
                generalize hg : swapF f piv.length t = g1
                have hing : inF p R C g1 := by rw [← hg]; exact inF_swap hin1 (by omega) htR
                have hpk := hing piv.length k (by omega) hkC
                repeat' (first
                  | (show AT _ _ _ (wpList _ _ _ (_ :: _)); first
                     | (show AT _ _ _ (wpList _ _ _ (⟨_, Op.move _, _, _, _, _⟩ :: _)); refine st_y (y_move rfl) rfl ?_)
                     | (show AT _ _ _ (wpList _ _ _ (⟨_, Op.assign _, _, _, _, _⟩ :: _)); refine st_y (y_assign rfl) rfl ?_)
                     | (show AT _ _ _ (wpList _ _ _ (⟨_, Op.load _ _, _, _, _, _⟩ :: _)); refine st_y (y_load tabs rfl rfl (hc_mkr 1 rfl hr1 hkC)) rfl ?_)
                     | (show AT _ _ _ (wpList _ _ _ (⟨_, Op.indexAddr _ _ _, _, _, _, _⟩ :: _)); refine st_y (y_ixs tabs (j := k) rfl rfl rfl rfl hkC) rfl ?_)
                     | (show AT _ _ _ (wpList _ _ _ (⟨_, Op.binOp _ _ _ _ _, _, _, _, _⟩ :: _)); refine st_y (y_lss rfl rfl) rfl ?_)
                     | (show AT _ _ _ (wpList _ _ _ (⟨_, Op.call _, _, _, _, _⟩ :: _)); first | (refine m_call (ent_of Try.func104 (by kernel_rfl) rfl) rfl rfl (fun w c => impl_InverseMod_ok hF hpk) ?_; rintro v H' ⟨rfl, rfl⟩) | refine st_y (y_len tabs rfl rfl) rfl ?_))
                  | (show AT _ _ _ (wpList _ _ _ []); refine c_nil (x_then ?_))
                  | (show AT _ _ _ (Code.wp _ _ _); first | refine c_seq ?_ | refine c_region ?_ | refine c_block ?_ | refine c_exit ?_ | refine c_iff rfl (by first | assumption | exact not_not_intro (by assumption) | omega) ?_)
                  | (show AT _ _ _ _; first | refine x_then ?_ | refine x_then_exit ?_ | refine x_blk_exit rfl ?_))
                have hiv := invM_in hF hpk
                generalize hve : invM p (g1 piv.length k) = iv at *
                -- the scaling
                refine c_loopH (α := Nat) [0, 3, 4, 6, 7, 9, 11, 17, 18, 77] (fun j => [(78, .int .i64 j)]) (fun j => j ≤ C) (fun j => [.own (iT piv) (.slice al piv.length cl), .own (iT (mk R C (scaleTo p iv g1 piv.length j))) (.slice ac (R * C) cc), .blk b4 #[iV 0, iV 0, .slice none 0 0] 46, .blk b3 #[iV R, iV C, .slice ac (R * C) cc] 46]) (fun j => C - j) 0 rfl (by repeat' (first | exact Sub.nil | refine Sub.cons rfl ?_ | refine Sub.consi rfl (by omega) ?_)) ?_ ?_ ?_
                · omega
                · intro w' c'
                  have e0 : scaleTo p iv g1 piv.length 0 = g1 := by funext i j; simp [scaleTo]
                  rwa [e0]
                · intro j hj2
                  by_cases hjc2 : j < C
                  · have hcv : scaleTo p iv g1 piv.length j piv.length j = g1 piv.length j := by simp [scaleTo]
                    have hcb := hing piv.length j (by omega) hjc2
                    have hmb := mul_small (a := scaleTo p iv g1 piv.length j piv.length j) (b := iv) (by rw [hcv]; omega) (by omega)
                    repeat' (first
                      | (show AT _ _ _ (wpList _ _ _ (_ :: _)); first
                         | (show AT _ _ _ (wpList _ _ _ (⟨_, Op.move _, _, _, _, _⟩ :: _)); refine st_y (y_move rfl) rfl ?_)
                         | (show AT _ _ _ (wpList _ _ _ (⟨_, Op.assign _, _, _, _, _⟩ :: _)); refine st_y (y_assign rfl) rfl ?_)
                         | (show AT _ _ _ (wpList _ _ _ (⟨_, Op.load _ _, _, _, _, _⟩ :: _)); refine st_y (y_load tabs rfl rfl (hc_mkr 1 rfl hr1 hjc2)) rfl ?_)
                         | (show AT _ _ _ (wpList _ _ _ (⟨_, Op.indexAddr _ _ _, _, _, _, _⟩ :: _)); refine st_y (y_ixs tabs (j := j) rfl rfl rfl rfl hjc2) rfl ?_)
                         | (show AT _ _ _ (wpList _ _ _ (⟨_, Op.binOp _ _ _ _ _, _, _, _, _⟩ :: _)); first | refine st_y (y_mul rfl rfl (by omega)) rfl ?_ | refine st_y (y_rem rfl rfl (by omega)) rfl ?_ | refine st_y (y_add rfl rfl (by omega)) rfl ?_ | refine st_y (y_lss rfl rfl) rfl ?_)
                         | (show AT _ _ _ (wpList _ _ _ (⟨_, Op.store _ _ _, _, _, _, _⟩ :: _)); refine m_storeo 1 (j := piv.length * C + j) tabs rfl (by rw [← Nat.add_assoc]; rfl) rfl rfl (by rw [mk_length]; exact cell_lt hr1 hjc2) ?_))
                      | (show AT _ _ _ (wpList _ _ _ []); first | refine c_nil (x_then ?_) | refine c_nil ?_)
                      | (show AT _ _ _ (Code.wp _ _ _); first | refine c_seq ?_ | refine c_region ?_ | refine c_skip (x_then ?_) | refine c_block ?_ | refine c_ift rfl (by first | assumption | omega) ?_)
                      | (show AT _ _ _ _; first | refine x_then ?_ | refine x_blk ?_))
                    refine x_nx (j + 1) (by repeat' (first | exact Sub.nil | refine Sub.cons rfl ?_ | refine Sub.consi rfl (by omega) ?_)) (by omega) (fun w' c' => ?_) (by omega)
                    simp only [List.set_cons_succ, List.set_cons_zero] at c'
                    rw [tmod_pos hmb.1, hcv, Int.mul_comm, mk_set (by omega) hjc2, scaleTo_next] at c'
                    exact c'
                  · have hsw2 : mk R C (scaleTo p iv g1 piv.length j) = mk R C (scaleF p iv g1 piv.length) := mk_ext (fun i c hi hc => by simp only [scaleTo]; rw [if_pos (by omega)])
                    rw [hsw2]
                    have hinh : inF p R C (scaleF p iv g1 piv.length) := inF_scale (by omega) hing
                    generalize hh : scaleF p iv g1 piv.length = h1 at *
                    -- the elimination
                    repeat' (first
                      | (show AT _ _ _ (wpList _ _ _ (_ :: _)); first
                         | (show AT _ _ _ (wpList _ _ _ (⟨_, Op.move _, _, _, _, _⟩ :: _)); refine st_y (y_move rfl) rfl ?_)
                         | (show AT _ _ _ (wpList _ _ _ (⟨_, Op.fieldAddr _ _ _, _, _, _, _⟩ :: _)); refine st_y (y_field tabs rfl rfl rfl) rfl ?_)
                         | (show AT _ _ _ (wpList _ _ _ (⟨_, Op.load _ _, _, _, _, _⟩ :: _)); refine st_y (y_load tabs rfl rfl (hc_blk 3 rfl rfl)) rfl ?_)
                         | (show AT _ _ _ (wpList _ _ _ (⟨_, Op.binOp _ _ _ _ _, _, _, _, _⟩ :: _)); refine st_y (y_lss rfl rfl) rfl ?_))
                      | (show AT _ _ _ (wpList _ _ _ []); refine c_nil (x_then ?_))
                      | (show AT _ _ _ (Code.wp _ _ _); first | refine c_seq ?_ | refine c_region ?_ | refine c_block ?_ | refine c_exit ?_ | refine c_iff rfl (by first | assumption | exact not_not_intro (by assumption) | omega) ?_)
                      | (show AT _ _ _ _; first | refine x_then ?_ | refine x_then_exit ?_ | refine x_blk_exit rfl ?_))
                    refine c_loopH (α := Nat) [0, 3, 4, 6, 7, 9, 17, 18, 94] (fun i => [(95, .int .i64 i)]) (fun i => i ≤ R) (fun i => [.own (iT piv) (.slice al piv.length cl), .own (iT (mk R C (elimTo p h1 piv.length k i))) (.slice ac (R * C) cc), .blk b4 #[iV 0, iV 0, .slice none 0 0] 46, .blk b3 #[iV R, iV C, .slice ac (R * C) cc] 46]) (fun i => R - i) 0 rfl (by repeat' (first | exact Sub.nil | refine Sub.cons rfl ?_ | refine Sub.consi rfl (by omega) ?_)) ?_ ?_ ?_
                    · omega
                    · intro w' c'
                      have e0 : elimTo p h1 piv.length k 0 = h1 := by funext i j; simp [elimTo]
                      rwa [e0]
                    · intro i hi
                      by_cases hiR : i < R
                      · by_cases hip : (i : Int) = piv.length
                        · have hii : i = piv.length := by omega
                          repeat' (first
                            | (show AT _ _ _ (wpList _ _ _ (_ :: _)); first
                               | (show AT _ _ _ (wpList _ _ _ (⟨_, Op.move _, _, _, _, _⟩ :: _)); refine st_y (y_move rfl) rfl ?_)
                               | (show AT _ _ _ (wpList _ _ _ (⟨_, Op.assign _, _, _, _, _⟩ :: _)); refine st_y (y_assign rfl) rfl ?_)
                               | (show AT _ _ _ (wpList _ _ _ (⟨_, Op.binOp _ _ _ _ _, _, _, _, _⟩ :: _)); first | refine st_y (y_add rfl rfl (by omega)) rfl ?_ | refine st_y (y_lss rfl rfl) rfl ?_ | refine st_y (y_neq rfl rfl) rfl ?_)
                               | (show AT _ _ _ (wpList _ _ _ (⟨_, Op.call _, _, _, _, _⟩ :: _)); refine st_y (y_len tabs rfl rfl) rfl ?_))
                            | (show AT _ _ _ (wpList _ _ _ []); refine c_nil (x_then ?_))
                            | (show AT _ _ _ (Code.wp _ _ _); first | refine c_seq ?_ | refine c_region ?_ | refine c_skip (x_then ?_) | refine c_skip (x_blk ?_) | refine c_block ?_ | refine c_ift rfl (by first | assumption | omega) ?_ | refine c_iff rfl (by first | assumption | exact not_not_intro (by assumption) | omega) ?_)
                            | (show AT _ _ _ _; refine x_then ?_))
                          refine x_nx (i + 1) (by repeat' (first | exact Sub.nil | refine Sub.cons rfl ?_ | refine Sub.consi rfl (by omega) ?_)) (by omega) (fun w' c' => ?_) (by omega)
                          have e0 : elimTo p h1 piv.length k (i + 1) = elimTo p h1 piv.length k i := by
                            funext a b; unfold elimTo elimF; subst hii; grind
                          rw [e0]; exact c'
                        · have hv0 : ∀ b, elimTo p h1 piv.length k i i b = h1 i b := fun b => by simp [elimTo]
                          have hv1 : ∀ b, elimTo p h1 piv.length k i piv.length b = h1 piv.length b := fun b => by unfold elimTo elimF; grind
                          have hfb := hinh i k hiR hkC
                          have hys : ∀ j, j < C → ((List.range C).map (h1 piv.length)).getD j 0 = h1 piv.length j := fun j hj => by simp [List.getD, hj]
                          have hcz := cell_lt (R := R) (C := C) (i := i) (j := C - 1) hiR (by omega)
                          repeat' (first
                            | (show AT _ _ _ (wpList _ _ _ (_ :: _)); first
                               | (show AT _ _ _ (wpList _ _ _ (⟨_, Op.move _, _, _, _, _⟩ :: _)); refine st_y (y_move rfl) rfl ?_)
                               | (show AT _ _ _ (wpList _ _ _ (⟨_, Op.assign _, _, _, _, _⟩ :: _)); refine st_y (y_assign rfl) rfl ?_)
                               | (show AT _ _ _ (wpList _ _ _ (⟨_, Op.binOp _ _ _ _ _, _, _, _, _⟩ :: _)); first | refine st_y (y_lss rfl rfl) rfl ?_ | refine st_y (y_neq rfl rfl) rfl ?_)
                               | (show AT _ _ _ (wpList _ _ _ (⟨_, Op.call _, _, _, _, _⟩ :: _)); refine st_y (y_len tabs rfl rfl) rfl ?_))
                            | (show AT _ _ _ (wpList _ _ _ []); refine c_nil (x_then ?_))
                            | (show AT _ _ _ (Code.wp _ _ _); first | refine c_seq ?_ | refine c_region ?_ | refine c_skip (x_then ?_) | refine c_block ?_ | refine c_ift rfl (by first | assumption | omega) ?_))
                          have hdis : ∀ j, j < C → (piv.length * C + j < i * C ∨ i * C + C ≤ piv.length * C + j) := fun j hj => by
                            rcases (by omega : piv.length < i ∨ i < piv.length) with h | h
                            · have := Nat.mul_le_mul_right C (show piv.length + 1 ≤ i by omega)
                              rw [Nat.succ_mul] at this; exact .inl (by omega)
                            · have := Nat.mul_le_mul_right C (show i + 1 ≤ piv.length by omega)
                              rw [Nat.succ_mul] at this; exact .inr (by omega)
                          have hrd : ∀ (w' : World) (xs' : List Int) (H' : List Nat × World), Hp H'.1 H'.2 [.own (iT xs') (.slice ac (R * C) cc)] w' → xs'.length = (mk R C (elimTo p h1 piv.length k i)).length → (∀ q, q < i * C ∨ i * C + C ≤ q → xs'.getD q 0 = (mk R C (elimTo p h1 piv.length k i)).getD q 0) → ∀ j, j < C → w'.cell? ⟨ab ac, ao ac + piv.length * C + j, none⟩ = some (iV (((List.range C).map (h1 piv.length)).getD j 0)) := fun w' xs' H' c' hxl hxo j hj => by
                            have h3 := hc_own (M := H'.1) (w0 := H'.2) 0 (H := [.own (iT xs') (.slice ac (R * C) cc)]) rfl (j := piv.length * C + j) (by rw [hxl, mk_length]; exact cell_lt hr1 hj) w' c'
                            rw [hxo _ (hdis j hj), mk_get hr1 hj, hv1] at h3
                            rw [hys j hj, Nat.add_assoc]
                            exact h3
                          refine c_idx (by kernel_rfl) (fun _ c => Hp.drew c) ?_
                          refine p_take 0 rfl (by kernel_rfl) (by kernel_rfl) (by kernel_rfl) (by exact y_move rfl) rfl ?_
                          refine p_take 2 rfl (by kernel_rfl) (by kernel_rfl) (by kernel_rfl) (by exact y_move rfl) rfl ?_
                          refine p_take 4 rfl (by kernel_rfl) (by kernel_rfl) (by kernel_rfl) (by exact y_move rfl) rfl ?_
                          refine p_take 6 rfl (by kernel_rfl) (by kernel_rfl) (by kernel_rfl) (by exact y_move rfl) rfl ?_
                          refine p_take 8 rfl (by kernel_rfl) (by kernel_rfl) (by kernel_rfl) (by exact y_move rfl) rfl ?_
                          refine p_take 12 rfl (by kernel_rfl) (by kernel_rfl) (by kernel_rfl) (by exact y_move rfl) rfl ?_
                          refine c_quiet 13 7 _ (l1 := #[true, false, true, false, true, false, true, false, true, false, false, false, true]) rfl rfl rfl rfl (by kernel_rfl) (by kernel_rfl) (by kernel_rfl) (by kernel_rfl) (by kernel_rfl) ?_
                          refine i_y 1 rfl (by kernel_rfl) (by kernel_rfl) (by kernel_rfl) (by exact y_loadb 3 tabs rfl rfl rfl rfl) rfl ?_
                          refine i_y 5 rfl (by kernel_rfl) (by kernel_rfl) (by kernel_rfl) (by exact y_loadb 3 tabs rfl rfl rfl rfl) rfl ?_
                          refine i_call 3 rfl (by kernel_rfl) (by kernel_rfl) (by kernel_rfl) (ent_of Try.func101 (by kernel_rfl) rfl) rfl rfl (fun w c => row_at hsc (by omega) ⟨by omega, by omega⟩ hiR hcap) (fun u H' h => h.1) ?_
                          refine i_call 7 rfl (by kernel_rfl) (by kernel_rfl) (by kernel_rfl) (ent_of Try.func101 (by kernel_rfl) rfl) rfl rfl (fun w c => row_at hsc (by omega) ⟨by omega, by omega⟩ hiR hcap) (fun u H' h => h.1) ?_
                          refine i_y 9 rfl (by kernel_rfl) (by kernel_rfl) (by kernel_rfl) (by exact y_ixs tabs (j := k) rfl rfl rfl rfl hkC) rfl ?_
                          refine i_y 10 rfl (by kernel_rfl) (by kernel_rfl) (by kernel_rfl) (by exact y_load tabs rfl rfl (hc_mkr 1 rfl hiR hkC)) rfl ?_
                          refine i_y 11 rfl (by kernel_rfl) (by kernel_rfl) (by kernel_rfl) (by exact y_sub rfl rfl (by rw [hv0]; omega)) rfl ?_
                          refine i_tail (by kernel_rfl) ?_
                          repeat' (first
                            | (show AT _ _ _ (wpList _ _ _ (_ :: _)); first
                               | (show AT _ _ _ (wpList _ _ _ (⟨_, Op.move _, _, _, _, _⟩ :: _)); refine st_y (y_move rfl) rfl ?_)
                               | (show AT _ _ _ (wpList _ _ _ (⟨_, Op.binOp _ _ _ _ _, _, _, _, _⟩ :: _)); refine st_y (y_add rfl rfl (by omega)) rfl ?_)
                               | (show AT _ _ _ (wpList _ _ _ (⟨_, Op.call _, _, _, _, _⟩ :: _)); (refine m_callL 1 (ent_of Try.func105 (by kernel_rfl) rfl) rfl rfl rfl (fun w M' hl => addMultiple_ok (o := i * C) (n := C) (ys := (List.range C).map (h1 piv.length)) hF (by rw [hv0]; omega) hl (fun _ => rfl) (by rw [mk_length]; omega) (by omega) (fun j hj => by rw [mk_get hiR hj, hv0]; have := hinh i j hiR hj; omega) (fun j hj => by rw [hys j hj]; have := hinh piv.length j hr1 hj; omega) .mk (fun w' xs' c' hxl hxo j hj => hrd w' xs' (M', w) c' hxl hxo j hj)) ?_; rintro v H' ⟨rfl, rfl⟩)))
                            | (show AT _ _ _ (wpList _ _ _ []); first | refine c_nil (x_then ?_) | refine c_nil (x_qn ?_))
                            | (show AT _ _ _ (Code.wp _ _ _); refine c_region ?_)
                            | (show AT _ _ _ _; first | refine x_then ?_ | refine x_blk ?_))
                          refine x_nx (i + 1) (by repeat' (first | exact Sub.nil | refine Sub.cons rfl ?_ | refine Sub.consi rfl (by omega) ?_)) (by omega) (fun w' c' => ?_) (by omega)
                          have hdn : mk R C (fun a b => if a = i ∧ b < C then (elimTo p h1 piv.length k i i b + (p - elimTo p h1 piv.length k i i k) * ((List.range C).map (h1 piv.length)).getD b 0) % p else elimTo p h1 piv.length k i a b) = mk R C (elimTo p h1 piv.length k (i + 1)) := mk_ext (fun a b ha hb => by
                            by_cases hai : a = i
                            · subst hai
                              rw [if_pos ⟨rfl, hb⟩, hv0, hv0, hys b hb, elim_eq]
                              unfold elimTo elimF
                              rw [if_pos (by omega), if_neg (by omega)]
                            · rw [if_neg (by omega)]
                              unfold elimTo
                              grind)
                          rw [addTo_mk hiR C (Nat.le_refl _), hdn] at c'
                          exact Hp.swap c'
                      · have hdone : mk R C (elimTo p h1 piv.length k i) = mk R C (elimF p h1 piv.length k) := mk_ext (fun i' c' hi' hc' => by simp only [elimTo]; rw [if_pos (by omega)])
                        rw [hdone]
                        repeat' (first
                          | (show AT _ _ _ (wpList _ _ _ (_ :: _)); first
                             | (show AT _ _ _ (wpList _ _ _ (⟨_, Op.move _, _, _, _, _⟩ :: _)); refine st_y (y_move rfl) rfl ?_)
                             | (show AT _ _ _ (wpList _ _ _ (⟨_, Op.assign _, _, _, _, _⟩ :: _)); refine st_y (y_assign rfl) rfl ?_)
                             | (show AT _ _ _ (wpList _ _ _ (⟨_, Op.binOp _ _ _ _ _, _, _, _, _⟩ :: _)); first | refine st_y (y_add rfl rfl (by omega)) rfl ?_ | refine st_y (y_lss rfl rfl) rfl ?_)
                             | (show AT _ _ _ (wpList _ _ _ (⟨_, Op.call _, _, _, _, _⟩ :: _)); refine m_pushi 0 tabs (k := (k : Int)) rfl rfl rfl rfl rfl (by omega) (fun a2 c2 => ?_))
                             | (show AT _ _ _ (wpList _ _ _ (⟨_, Op.buildSlice _ _ _, _, _, _, _⟩ :: _)); refine m_build1 tabs (us := [iV k]) rfl rfl rfl rfl (by decide) rfl (fun g2 hg2 => ?_)))
                          | (show AT _ _ _ (wpList _ _ _ []); first | refine c_nil (x_then ?_) | refine c_nil ?_)
                          | (show AT _ _ _ (Code.wp _ _ _); first | refine c_seq ?_ | refine c_region ?_ | refine c_exit ?_ | refine c_iff rfl (by first | assumption | exact not_not_intro (by assumption) | omega) ?_)
                          | (show AT _ _ _ _; first | refine x_then ?_ | refine x_then_exit ?_ | refine x_blk_exit rfl ?_ | refine x_blk ?_))
                        have hnx : redTo p R f0 (k + 1) = (elimF p h1 piv.length k, piv ++ [(k : Int)]) := by
                          rw [redTo_next (by rw [hst]; simp only; omega), hst]
                          simp only [hat, hg, hve, hh]
                        refine x_nx (k + 1, a2, c2) ?_ (by simp only; omega) (fun w' c' => ?_) (by simp only; omega)
                        · simp only [hnx, List.length_append, List.length_singleton]
                          exact (by repeat' (first | exact Sub.nil | refine Sub.cons rfl ?_ | refine Sub.consi rfl (by omega) ?_))
                        · simp only [hnx, List.length_append, List.length_singleton]
                          exact c'
        · have htR' : ¬ ((t : Int) < R) := by omega
          have hte : (t : Int) = R := by omega
          have hsk : redTo p R f0 (k + 1) = (f, piv) := by rw [redTo_skip (by rw [hst]; exact findAt_none (fun i h1 h2 => htz i h1 (by omega))), hst]
          repeat' (first
            | (show AT _ _ _ (wpList _ _ _ (_ :: _)); first
               | (show AT _ _ _ (wpList _ _ _ (⟨_, Op.move _, _, _, _, _⟩ :: _)); refine st_y (y_move rfl) rfl ?_)
               | (show AT _ _ _ (wpList _ _ _ (⟨_, Op.fieldAddr _ _ _, _, _, _, _⟩ :: _)); refine st_y (y_field tabs rfl rfl rfl) rfl ?_)
               | (show AT _ _ _ (wpList _ _ _ (⟨_, Op.load _ _, _, _, _, _⟩ :: _)); refine st_y (y_load tabs rfl rfl (hc_blk 3 rfl rfl)) rfl ?_)
               | (show AT _ _ _ (wpList _ _ _ (⟨_, Op.binOp _ _ _ _ _, _, _, _, _⟩ :: _)); first | refine st_y (y_add rfl rfl (by omega)) rfl ?_ | refine st_y (y_lss rfl rfl) rfl ?_ | refine st_y (y_eql rfl rfl) rfl ?_)
               | (show AT _ _ _ (wpList _ _ _ (⟨_, Op.pick _ _ _, _, _, _, _⟩ :: _)); refine st_y (y_pickf rfl (by assumption) rfl) rfl ?_)
               | refine st_gdn rfl rfl (by assumption) rfl ?_)
            | (show AT _ _ _ (wpList _ _ _ []); refine c_nil (x_then ?_))
            | (show AT _ _ _ (Code.wp _ _ _); first | refine c_seq ?_ | refine c_region ?_ | refine c_exit ?_ | refine c_false rfl ?_ | refine c_ift rfl (by first | assumption | omega) ?_)
            | (show AT _ _ _ _; first | refine x_then ?_ | refine x_then_exit ?_ | refine x_blk_exit rfl ?_))
          refine x_nx (k + 1, al, cl) ?_ (by simp only; omega) (fun w' c' => ?_) (by simp only; omega)
          · simp only [hsk]
            exact (by repeat' (first | exact Sub.nil | refine Sub.cons rfl ?_ | refine Sub.consi rfl (by omega) ?_))
          · simp only [hsk]
            exact c'
    · have hkC' : k = C := by omega
      have hfull : redTo p R f0 C = (f, piv) := by rw [← hkC']; exact hst
      refine AT.fact (own_sl 0 rfl) (fun hsl => ?_)
      repeat' (first
        | (show AT _ _ _ (wpList _ _ _ (_ :: _)); first
           | (show AT _ _ _ (wpList _ _ _ (⟨_, Op.move _, _, _, _, _⟩ :: _)); refine st_y (y_move rfl) rfl ?_)
           | (show AT _ _ _ (wpList _ _ _ (⟨_, Op.assign _, _, _, _, _⟩ :: _)); refine st_y (y_assign rfl) rfl ?_)
           | (show AT _ _ _ (wpList _ _ _ (⟨_, Op.load _ _, _, _, _, _⟩ :: _)); refine st_y (y_loadb 3 tabs rfl rfl rfl rfl) rfl ?_)
           | (show AT _ _ _ (wpList _ _ _ (⟨_, Op.binOp _ _ _ _ _, _, _, _, _⟩ :: _)); refine st_y (y_lss rfl rfl) rfl ?_)
           | (show AT _ _ _ (wpList _ _ _ (⟨_, Op.store _ _ _, _, _, _, _⟩ :: _)); refine m_storeb 2 tabs rfl rfl rfl rfl rfl rfl rfl ?_))
        | (show AT _ _ _ (wpList _ _ _ []); refine c_nil (x_then ?_))
        | (show AT _ _ _ (Code.wp _ _ _); first | refine c_seq ?_ | refine c_region ?_ | refine c_ret ?_ | refine c_exit ?_ | refine c_iff rfl (by first | assumption | exact not_not_intro (by assumption) | omega) ?_)
        | (show AT _ _ _ _; first | refine x_then ?_ | refine x_then_exit ?_ | refine x_blk_exit rfl ?_))
      have hM : redM p (↑R, ↑C, xs) = (↑R, ↑C, mk R C f) := by
        simp only [redM, hf, Int.toNat_natCast, hfull]
      have hL : redL p (↑R, ↑C, xs) = piv := by
        simp only [redL, hf, Int.toNat_natCast, hfull]
      rw [hf0] at hM hL
      rw [hM, hL]
      obtain ⟨a3, c3, e3, hs3⟩ := hsl
      cases e3
      refine x_ret2 Try.results68 (res_cellb 2 tabs rfl rfl rfl rfl) (res_tmp rfl) (fun w' c' => ⟨_, [.own (iT piv) (.slice al piv.length cl), .own (iT (mk R C f)) (.slice ac (R * C) cc)], rfl, ⟨ac, cc, al, cl, by simp, by simpa using hsc, hs3, by simp⟩, ?_⟩)
      exact c'.sub (.cons_cons _ (.cons_cons _ (List.nil_sublist _)))
end Go.Proofs.Ytljgmmmgnfgbhaa
