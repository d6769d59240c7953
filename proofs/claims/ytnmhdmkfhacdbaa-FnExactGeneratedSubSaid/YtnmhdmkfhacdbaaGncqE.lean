import Derived.Test.YtnmhdmkfhacdbaaGnbqE
import Derived.Test.YtnmhdmkfhacdbaaPatqE
namespace Go.Proofs.Ytnmhdmkfhacdbaa
open Go.Lg Go.Proofs Go.RowKit
attribute [local irreducible] Code.wp wpList bodyPost Exit.then Exit.inBlock Hp Again Calls Y AT ResV QT Qn QI wpAny wpAnyQ
set_option maxRecDepth 20000
set_option maxHeartbeats 4000000

theorem impl_GeneratedSub_ok {w : World} {r : Rp} {v : Int} {xs : List Int} {e : Nat} {u0 u1 u2 u3 ux : Value} (hv : Rng v) (h0 : Rd w (iT r.q.2.1) u0) (h1 : Rd w (iT r.q.2.2) u1) (h2 : Rd w (iT r.d) u2) (h3 : Rd w (matsT e r.m) u3) (hx : Rd w (iT xs) ux) :
    Does Try.prog 61 [.agg #[iV r.p, iV r.q.1, u0, u1, u2, u3], iV v, ux] w (GivesSpsB (genL r v xs) (decide (GenP r v xs))) := by
  have h20 := h2
  have hx0 := hx
  obtain ⟨a0, c0, rfl, _⟩ := h0.ints
  obtain ⟨a1, c1, rfl, _⟩ := h1.ints
  obtain ⟨a2, c2, rfl, hs2, _, _, hg2⟩ := h2.ints
  obtain ⟨ax, cx, rfl, _⟩ := hx.ints
  by_cases hR : RepP r
  · have hqn := hR.2.1.1.1
    have hdl := hR.2.1.2.1
    have hdv := hR.dg v.toNat
    by_cases hV : 0 ≤ v ∧ v ≤ r.q.1 - 1
    · obtain ⟨n, hn⟩ : ∃ n : Nat, v = n := ⟨v.toNat, by omega⟩
      subst hn
      simp only [Int.toNat_natCast] at hdv
      have hnl : n < r.d.length := by omega
      have gD := hg2 n hnl
      by_cases hG : GenP r n xs
      · rw [genL, if_pos hG, decide_eq_true hG]
        have hX := hG.2.2.1
        have hl := hG.2.2.2
        simp only [Int.toNat_natCast] at hl ⊢
        refine fn_enter Try.func61 rfl Try.ntmps61 rfl ?_
        repeat' (first
          | (show AT _ _ _ (wpList _ _ _ (_ :: _)); first
             | (show AT _ _ _ (wpList _ _ _ (⟨_, Op.move _, _, _, _, _⟩ :: _)); refine st_y (y_move rfl) rfl ?_)
             | (show AT _ _ _ (wpList _ _ _ (⟨_, Op.assign _, _, _, _, _⟩ :: _)); refine st_y (y_assign rfl) rfl ?_)
             | (show AT _ _ _ (wpList _ _ _ (⟨_, Op.fieldAddr _ _ _, _, _, _, _⟩ :: _)); refine st_y (y_field tabs rfl rfl rfl) rfl ?_)
             | (show AT _ _ _ (wpList _ _ _ (⟨_, Op.load _ _, _, _, _, _⟩ :: _)); first | refine st_y (y_loadb 0 tabs rfl rfl rfl rfl) rfl ?_ | refine st_y (y_load3 tabs rfl rfl (hc_blk 0 rfl rfl) (hc_blk 0 rfl rfl) (hc_blk 0 rfl rfl)) rfl ?_ | refine st_y (y_load tabs rfl rfl (hc_blk 0 rfl rfl)) rfl ?_ | refine st_y (y_load tabs rfl rfl (hc_w0 gD)) rfl ?_)
             | (show AT _ _ _ (wpList _ _ _ (⟨_, Op.indexAddr _ _ _, _, _, _, _⟩ :: _)); refine st_y (y_ix1 tabs (j := n) rfl rfl rfl hs2 rfl hnl) rfl ?_)
             | (show AT _ _ _ (wpList _ _ _ (⟨_, Op.binOp _ _ _ _ _, _, _, _, _⟩ :: _)); refine st_y (y_neq rfl rfl) rfl ?_)
             | (show AT _ _ _ (wpList _ _ _ (⟨_, Op.unOp _ _ _, _, _, _, _⟩ :: _)); refine st_y (y_notd rfl) rfl ?_)
             | (show AT _ _ _ (wpList _ _ _ (⟨_, Op.call _, _, _, _, _⟩ :: _)); first | (refine m_call (ent_of Try.func72 (by kernel_rfl) rfl) rfl rfl (fun w c => impl_IsRep_ok (r := r) (c.rd h0) (c.rd h1) (c.rd h20) (c.rd h3)) ?_; rintro v H' ⟨rfl, rfl⟩) | (refine m_call (ent_of Try.func118 (by kernel_rfl) rfl) rfl rfl (fun w c => hasVertex_ok (q := r.q) (by omega)) ?_; rintro v H' ⟨rfl, rfl⟩) | (refine m_call (ent_of Try.func119 (by kernel_rfl) rfl) rfl rfl (fun w c => impl_IsVector_ok (c.rd hx0)) ?_; rintro v H' ⟨rfl, rfl⟩) | (refine m_call (ent_of Try.func120 (by kernel_rfl) rfl) rfl rfl (fun w c => generated_ok (c.rd h0) (c.rd h1) (c.rd h20) (c.rd h3) (c.rd hx0) hR hnl hX hl) ?_; rintro v H' ⟨a7, c7, rfl, hs7, rfl⟩) | refine st_y (y_len tabs rfl rfl) rfl ?_)
             | (show AT _ _ _ (wpList _ _ _ (⟨_, Op.pick _ _ _, _, _, _, _⟩ :: _)); first | refine st_y (y_pickt rfl (by first | assumption | omega) rfl) rfl ?_ | refine st_y (y_pickf rfl (by first | assumption | omega) rfl) rfl ?_ | refine st_y (y_pick rfl rfl rfl) rfl ?_)
             | (show AT _ _ _ (wpList _ _ _ (⟨_, Op.box _ _, _, _, _, _⟩ :: _)); refine m_box rfl rfl (fun b hb => ?_))
             | refine st_gn rfl rfl rfl ?_ | refine st_gfy rfl rfl (by first | assumption | omega) ?_ | refine st_gfn rfl rfl (by first | assumption | omega) rfl ?_ | refine st_gd rfl rfl (fun h => ?_) (fun h => ?_))
          | (show AT _ _ _ (wpList _ _ _ []); refine c_nil (x_then ?_))
          | (show AT _ _ _ (Code.wp _ _ _); first | refine c_seq ?_ | refine c_region ?_ | refine c_skip (x_then ?_) | refine c_ret ?_ | refine c_true rfl ?_ | refine c_iff rfl (by first | assumption | exact not_not_intro (by assumption) | omega) ?_)
          | (show AT _ _ _ _; refine x_then_ret ?_))
        all_goals first | exact absurd hR (by assumption) | exact absurd hV (by assumption) | exact absurd hX (by assumption) | exact absurd hl (by assumption) | skip
        exact x_ret2 Try.results61 (res_tmp rfl) (res_tmp rfl) (fun w' c' => ⟨_, _, rfl, ⟨a7, c7, rfl, hs7, rfl⟩, c'.sub (.cons_cons _ (List.nil_sublist _))⟩)
      · rw [genL, if_neg hG, decide_eq_false hG]
        have hG2 : ¬ (VecP r.p xs ∧ (xs.length : Int) = r.d.getD n 0) := fun h => hG ⟨hR, ⟨by omega, by omega⟩, h.1, h.2⟩
        refine fn_enter Try.func61 rfl Try.ntmps61 rfl ?_
        repeat' (first
          | (show AT _ _ _ (wpList _ _ _ (_ :: _)); first
             | (show AT _ _ _ (wpList _ _ _ (⟨_, Op.move _, _, _, _, _⟩ :: _)); refine st_y (y_move rfl) rfl ?_)
             | (show AT _ _ _ (wpList _ _ _ (⟨_, Op.assign _, _, _, _, _⟩ :: _)); refine st_y (y_assign rfl) rfl ?_)
             | (show AT _ _ _ (wpList _ _ _ (⟨_, Op.fieldAddr _ _ _, _, _, _, _⟩ :: _)); refine st_y (y_field tabs rfl rfl rfl) rfl ?_)
             | (show AT _ _ _ (wpList _ _ _ (⟨_, Op.load _ _, _, _, _, _⟩ :: _)); first | refine st_y (y_loadb 0 tabs rfl rfl rfl rfl) rfl ?_ | refine st_y (y_load3 tabs rfl rfl (hc_blk 0 rfl rfl) (hc_blk 0 rfl rfl) (hc_blk 0 rfl rfl)) rfl ?_ | refine st_y (y_load tabs rfl rfl (hc_blk 0 rfl rfl)) rfl ?_ | refine st_y (y_load tabs rfl rfl (hc_w0 gD)) rfl ?_)
             | (show AT _ _ _ (wpList _ _ _ (⟨_, Op.indexAddr _ _ _, _, _, _, _⟩ :: _)); refine st_y (y_ix1 tabs (j := n) rfl rfl rfl hs2 rfl hnl) rfl ?_)
             | (show AT _ _ _ (wpList _ _ _ (⟨_, Op.binOp _ _ _ _ _, _, _, _, _⟩ :: _)); refine st_y (y_neq rfl rfl) rfl ?_)
             | (show AT _ _ _ (wpList _ _ _ (⟨_, Op.unOp _ _ _, _, _, _, _⟩ :: _)); refine st_y (y_notd rfl) rfl ?_)
             | (show AT _ _ _ (wpList _ _ _ (⟨_, Op.call _, _, _, _, _⟩ :: _)); first | (refine m_call (ent_of Try.func72 (by kernel_rfl) rfl) rfl rfl (fun w c => impl_IsRep_ok (r := r) (c.rd h0) (c.rd h1) (c.rd h20) (c.rd h3)) ?_; rintro v H' ⟨rfl, rfl⟩) | (refine m_call (ent_of Try.func118 (by kernel_rfl) rfl) rfl rfl (fun w c => hasVertex_ok (q := r.q) (by omega)) ?_; rintro v H' ⟨rfl, rfl⟩) | (refine m_call (ent_of Try.func119 (by kernel_rfl) rfl) rfl rfl (fun w c => impl_IsVector_ok (c.rd hx0)) ?_; rintro v H' ⟨rfl, rfl⟩) | refine st_y (y_len tabs rfl rfl) rfl ?_)
             | (show AT _ _ _ (wpList _ _ _ (⟨_, Op.pick _ _ _, _, _, _, _⟩ :: _)); first | refine st_y (y_pickt rfl (by first | assumption | omega) rfl) rfl ?_ | refine st_y (y_pickf rfl (by first | assumption | omega) rfl) rfl ?_ | refine st_y (y_pick rfl rfl rfl) rfl ?_)
             | (show AT _ _ _ (wpList _ _ _ (⟨_, Op.box _ _, _, _, _, _⟩ :: _)); refine m_box rfl rfl (fun b hb => ?_))
             | refine st_gn rfl rfl rfl ?_ | refine st_gfy rfl rfl (by first | assumption | omega) ?_ | refine st_gfn rfl rfl (by first | assumption | omega) rfl ?_ | refine st_gd rfl rfl (fun h => ?_) (fun h => ?_))
          | (show AT _ _ _ (wpList _ _ _ []); refine c_nil (x_then ?_))
          | (show AT _ _ _ (Code.wp _ _ _); first | refine c_seq ?_ | refine c_region ?_ | refine c_skip (x_then ?_) | refine c_ret ?_ | refine c_true rfl ?_ | refine c_ifnd rfl (fun h => ?_) (fun h => ?_))
          | (show AT _ _ _ _; refine x_then_ret ?_))
        all_goals first
          | exact (hG2 ⟨by first | assumption | exact Decidable.not_not.1 (by assumption), by first | assumption | exact Decidable.not_not.1 (by assumption)⟩).elim
          | exact x_ret2 Try.results61 (res_tmp rfl) (res_tmp rfl) (fun w' c' => ⟨_, _, rfl, ⟨none, 0, rfl, .inl rfl, rfl⟩, Hp.nilp _ _ (c'.sub (List.nil_sublist _))⟩)
    · have hG : ¬ GenP r v xs := fun h => hV ⟨h.2.1.1, by have := h.2.1.2; omega⟩
      rw [genL, if_neg hG, decide_eq_false hG]
      refine fn_enter Try.func61 rfl Try.ntmps61 rfl ?_
      repeat' (first
        | (show AT _ _ _ (wpList _ _ _ (_ :: _)); first
           | (show AT _ _ _ (wpList _ _ _ (⟨_, Op.move _, _, _, _, _⟩ :: _)); refine st_y (y_move rfl) rfl ?_)
           | (show AT _ _ _ (wpList _ _ _ (⟨_, Op.assign _, _, _, _, _⟩ :: _)); refine st_y (y_assign rfl) rfl ?_)
           | (show AT _ _ _ (wpList _ _ _ (⟨_, Op.fieldAddr _ _ _, _, _, _, _⟩ :: _)); refine st_y (y_field tabs rfl rfl rfl) rfl ?_)
           | (show AT _ _ _ (wpList _ _ _ (⟨_, Op.load _ _, _, _, _, _⟩ :: _)); first | refine st_y (y_loadb 0 tabs rfl rfl rfl rfl) rfl ?_ | refine st_y (y_load3 tabs rfl rfl (hc_blk 0 rfl rfl) (hc_blk 0 rfl rfl) (hc_blk 0 rfl rfl)) rfl ?_)
           | (show AT _ _ _ (wpList _ _ _ (⟨_, Op.unOp _ _ _, _, _, _, _⟩ :: _)); refine st_y (y_notd rfl) rfl ?_)
           | (show AT _ _ _ (wpList _ _ _ (⟨_, Op.call _, _, _, _, _⟩ :: _)); first | (refine m_call (ent_of Try.func72 (by kernel_rfl) rfl) rfl rfl (fun w c => impl_IsRep_ok (r := r) (c.rd h0) (c.rd h1) (c.rd h20) (c.rd h3)) ?_; rintro v H' ⟨rfl, rfl⟩) | (refine m_call (ent_of Try.func118 (by kernel_rfl) rfl) rfl rfl (fun w c => hasVertex_ok (q := r.q) (by omega)) ?_; rintro v H' ⟨rfl, rfl⟩))
           | (show AT _ _ _ (wpList _ _ _ (⟨_, Op.pick _ _ _, _, _, _, _⟩ :: _)); first | refine st_y (y_pickt rfl (by assumption) rfl) rfl ?_ | refine st_y (y_pickf rfl (by assumption) rfl) rfl ?_ | refine st_y (y_pick rfl rfl rfl) rfl ?_)
           | (show AT _ _ _ (wpList _ _ _ (⟨_, Op.box _ _, _, _, _, _⟩ :: _)); refine m_box rfl rfl (fun b hb => ?_))
           | refine st_gn rfl rfl rfl ?_ | refine st_gfy rfl rfl (by assumption) ?_ | refine st_gfn rfl rfl (by assumption) rfl ?_ | refine st_gd rfl rfl (fun h => ?_) (fun h => ?_))
        | (show AT _ _ _ (wpList _ _ _ []); refine c_nil (x_then ?_))
        | (show AT _ _ _ (Code.wp _ _ _); first | refine c_seq ?_ | refine c_region ?_ | refine c_ret ?_ | refine c_true rfl ?_)
        | (show AT _ _ _ _; refine x_then_ret ?_))
      all_goals first
        | exact absurd (by first | assumption | exact Decidable.not_not.1 (by assumption)) hV
        | exact x_ret2 Try.results61 (res_tmp rfl) (res_tmp rfl) (fun w' c' => ⟨_, _, rfl, ⟨none, 0, rfl, .inl rfl, rfl⟩, Hp.nilp _ _ (c'.sub (List.nil_sublist _))⟩)
  · have hG : ¬ GenP r v xs := fun h => hR h.1
    rw [genL, if_neg hG, decide_eq_false hG]
    refine fn_enter Try.func61 rfl Try.ntmps61 rfl ?_
    repeat' (first
      | (show AT _ _ _ (wpList _ _ _ (_ :: _)); first
         | (show AT _ _ _ (wpList _ _ _ (⟨_, Op.move _, _, _, _, _⟩ :: _)); refine st_y (y_move rfl) rfl ?_)
         | (show AT _ _ _ (wpList _ _ _ (⟨_, Op.assign _, _, _, _, _⟩ :: _)); refine st_y (y_assign rfl) rfl ?_)
         | (show AT _ _ _ (wpList _ _ _ (⟨_, Op.load _ _, _, _, _, _⟩ :: _)); refine st_y (y_loadb 0 tabs rfl rfl rfl rfl) rfl ?_)
         | (show AT _ _ _ (wpList _ _ _ (⟨_, Op.unOp _ _ _, _, _, _, _⟩ :: _)); refine st_y (y_notd rfl) rfl ?_)
         | (show AT _ _ _ (wpList _ _ _ (⟨_, Op.call _, _, _, _, _⟩ :: _)); (refine m_call (ent_of Try.func72 (by kernel_rfl) rfl) rfl rfl (fun w c => impl_IsRep_ok (r := r) (c.rd h0) (c.rd h1) (c.rd h20) (c.rd h3)) ?_; rintro v H' ⟨rfl, rfl⟩))
         | (show AT _ _ _ (wpList _ _ _ (⟨_, Op.pick _ _ _, _, _, _, _⟩ :: _)); first | refine st_y (y_pickt rfl (by assumption) rfl) rfl ?_ | refine st_y (y_pick rfl rfl rfl) rfl ?_)
         | (show AT _ _ _ (wpList _ _ _ (⟨_, Op.box _ _, _, _, _, _⟩ :: _)); refine m_box rfl rfl (fun b hb => ?_))
         | refine st_gn rfl rfl rfl ?_ | refine st_gfn rfl rfl (by assumption) rfl ?_)
      | (show AT _ _ _ (wpList _ _ _ []); refine c_nil (x_then ?_))
      | (show AT _ _ _ (Code.wp _ _ _); first | refine c_seq ?_ | refine c_region ?_ | refine c_ret ?_ | refine c_true rfl ?_)
      | (show AT _ _ _ _; refine x_then_ret ?_))
    all_goals first
      | exact absurd (by first | assumption | exact Decidable.not_not.1 (by assumption)) hR
      | exact x_ret2 Try.results61 (res_tmp rfl) (res_tmp rfl) (fun w' c' => ⟨_, _, rfl, ⟨none, 0, rfl, .inl rfl, rfl⟩, Hp.nilp _ _ (c'.sub (List.nil_sublist _))⟩)
theorem OwnL.oneCell {w : World} : ∀ {o : List Sp} {us : List Value} {f : List Nat}, OwnL w (o.flatMap spT) us f → ∀ u ∈ us, u.oneCell' = true
  | [], us, f, h => by
    simp only [List.flatMap_nil, OwnL] at h
    rw [h.1]
    exact fun u hu => by cases hu
  | s :: o, us, f, h => by
    simp only [List.flatMap_cons, spT, List.cons_append, List.nil_append, OwnL] at h
    obtain ⟨v, vs', f1, f2, rfl, rfl, h1, v2, vs2, f3, f4, rfl, rfl, h2, h3⟩ := h
    simp only [Own] at h1
    intro u hu
    rcases List.mem_cons.1 hu with rfl | hu
    · rw [h1.1]; rfl
    rcases List.mem_cons.1 hu with rfl | hu
    · obtain ⟨a, c, e, _⟩ := rd_rows h2.rd
      rw [e]; rfl
    · exact OwnL.oneCell h3 u hu
theorem rdo_mats {w : World} {M : List Nat} {e : Nat} {ms : List Mat} {v : Value} (h : RdOut w M (matsT e ms) v) : ∃ a cap, v = .slice a ms.length cap ∧ SA a ms.length ∧
    ∀ i m, ms[i]? = some m → ∃ a2 c2, (∀ w', Agree M w w' → w'.cell? ⟨ab a, ao a + i * 3, none⟩ = some (iV m.1)) ∧ (∀ w', Agree M w w' → w'.cell? ⟨ab a, ao a + i * 3 + 1, none⟩ = some (iV m.2.1)) ∧ (∀ w', Agree M w w' → w'.cell? ⟨ab a, ao a + i * 3 + 2, none⟩ = some (.slice a2 m.2.2.length c2)) ∧ RdOut w M (iT m.2.2) (.slice a2 m.2.2.length c2) := by
  obtain ⟨a, n, cap, h1, h2, h3, h4, h5, h6⟩ := RdOut.open (by decide) h
  rw [flatMap_length matT_length] at h5
  have : ms.length = n := by omega
  subst this
  refine ⟨a, cap, h1, h2, fun i m hm => ?_⟩
  obtain ⟨x0, c0, r0⟩ := h6 (i * 3 + 0) _ (by rw [flatMap_get matT_length hm (by omega)]; rfl)
  obtain ⟨x1, c1, r1⟩ := h6 (i * 3 + 1) _ (by rw [flatMap_get matT_length hm (by omega)]; rfl)
  obtain ⟨x2, c2, r2⟩ := h6 (i * 3 + 2) _ (by rw [flatMap_get matT_length hm (by omega)]; rfl)
  obtain ⟨a2, k2, e2, _⟩ := r2.intsO
  rw [r0.c] at c0
  rw [r1.c] at c1
  subst e2
  exact ⟨a2, k2, c0, c1, c2, r2⟩
theorem hc_out {M : List Nat} {w0 : World} {H : List HE} {ad : Addr} {v : Value} (h : ∀ w', Agree M w0 w' → w'.cell? ad = some v) : ∀ w, Hp M w0 H w → w.cell? ad = some v := fun w c => h w c.agree
theorem names_src {M : List Nat} {w0 : World} {H : List HE} (j : Nat) {e k m c : Nat} {us : List Value} {a : Option Addr} (hk : 0 < k) (hi : H[j]? = some (.own (.s e k (us.map T.c)) (.slice a m c))) (hs : SA a m) : ∀ w, Hp M w0 H w → m = 0 ∨ ∃ ad, a = some ad ∧ ∀ q u, us[q]? = some u → w.cell? (ad.add q) = some u := fun w cw => by
  by_cases hm : m = 0
  · exact .inl hm
  · refine .inr ⟨⟨ab a, ao a, none⟩, hs.get (by omega), fun q u hu => ?_⟩
    have := hc_nmk j hk hi hu w cw
    simpa [Addr.add_lit] using this
theorem l12Close_ok {w1 : World} {M1 : List Nat} {H1 : List HE} {w : World} {M' : List Nat} {r : Rp} {o : List Sp} {e : Nat} {u0 u1 u2 u3 : Value} {av : Option Addr} {cv : Nat} (hL : Lent M1 w1 (.own (spsT 61 o) (.slice av r.d.length cv)) H1 M' w)
    (h0 : RdOut w M' (iT r.q.2.1) u0) (h1 : RdOut w M' (iT r.q.2.2) u1) (h2 : RdOut w M' (iT r.d) u2) (h3 : RdOut w M' (matsT e r.m) u3) (hR : RepP r) (hO : OkG r o) :
    DoesB Try.prog 117 [.agg #[iV r.p, iV r.q.1, u0, u1, u2, u3], .slice av r.d.length cv] w M' (fun v H => ∃ a c us, v = .slice a r.d.length c ∧ SA a r.d.length ∧ H = [.own (spsT 61 (seqG r o 9)) (.slice a r.d.length c), .own (.s 61 2 us) (.slice av r.d.length cv)]) := by
  have hF := hR.1
  have h5 := (RepP.dd hR).2
  have h6 : r.m.length ≤ 6 := by have := hR.2.2.1; have := hR.2.1.1.2.1; omega
  have hol := hO.1
  obtain ⟨a0, c0, rfl, hs0, hg0⟩ := h0.intsO
  obtain ⟨a1, c1, rfl, hs1, hg1⟩ := h1.intsO
  obtain ⟨a2, c2, rfl, hs2, hg2⟩ := h2.intsO
  obtain ⟨a3, c3, rfl, hs3, hg3⟩ := rdo_mats h3
  refine fnb_lent Try.func117 rfl Try.ntmps117 rfl hL ?_
  repeat' (first
    | (show AT _ _ _ (wpList _ _ _ (_ :: _)); first
       | (show AT _ _ _ (wpList _ _ _ (⟨_, Op.move _, _, _, _, _⟩ :: _)); refine st_y (y_move rfl) rfl ?_)
       | (show AT _ _ _ (wpList _ _ _ (⟨_, Op.assign _, _, _, _, _⟩ :: _)); refine st_y (y_assign rfl) rfl ?_)
       | (show AT _ _ _ (wpList _ _ _ (⟨_, Op.box _ _, _, _, _, _⟩ :: _)); refine m_box rfl rfl (fun b2 hb2 => ?_))
       | (show AT _ _ _ (wpList _ _ _ (⟨_, Op.buildSlice _ _ _, _, _, _, _⟩ :: _)); refine m_build0 tabs rfl rfl (fun gq hgq => ?_)))
    | (show AT _ _ _ (wpList _ _ _ []); refine c_nil (x_then ?_))
    | (show AT _ _ _ (Code.wp _ _ _); first | refine c_seq ?_ | refine c_region ?_))
  refine AT.fact (sps_sl 2 rfl) (fun hsv => ?_)
  rw [hol] at hsv
  refine AT.opn 2 rfl (fun us hus => ?_)
  rw [flatMap_length spT_length] at hus
  refine AT.fact (fun w' c' => (by obtain ⟨f, hsat, _⟩ := c'.sat (i := 1) rfl; exact OwnL.oneCell hsat : ∀ u ∈ us, u.oneCell' = true)) (fun huc => ?_)
  refine m_app (ts := []) (tn := o.flatMap spT) (news := us) (m' := r.d.length) (H' := [.own (.s 61 2 (us.map T.c)) (.slice av r.d.length cv), .blk b2 #[iV r.p, iV r.q.1, .slice a0 r.q.2.1.length c0, .slice a1 r.q.2.2.length c1, .slice a2 r.d.length c2, .slice a3 r.m.length c3] 32]) tabs rfl rfl rfl rfl (by omega) huc (by rw [flatMap_length spT_length]; simp; omega) (by simp; omega) (by decide) (fun w c => (c.front (i := 1) rfl).front (i := 2) rfl) (names_src 0 (by decide) rfl hsv) (fun al cl => ?_)
  rw [List.nil_append]
  refine AT.fact (sps_sl 0 rfl) (fun hsl => ?_)
  rw [hol] at hsl
  repeat' (first
    | (show AT _ _ _ (wpList _ _ _ (_ :: _)); first
       | (show AT _ _ _ (wpList _ _ _ (⟨_, Op.assign _, _, _, _, _⟩ :: _)); refine st_y (y_assign rfl) rfl ?_))
    | (show AT _ _ _ (wpList _ _ _ []); refine c_nil (x_then ?_))
    | (show AT _ _ _ (Code.wp _ _ _); first | refine c_seq ?_ | refine c_region ?_ | refine c_block ?_))
  refine c_loopH (α := Nat) [2, 5] (fun n => [(6, .int .i64 n)]) (fun n => n ≤ 9) (fun n => [.own (spsT 61 (seqG r o n)) (.slice al r.d.length cl), .own (.s 61 2 (us.map T.c)) (.slice av r.d.length cv), .blk b2 #[iV r.p, iV r.q.1, .slice a0 r.q.2.1.length c0, .slice a1 r.q.2.2.length c1, .slice a2 r.d.length c2, .slice a3 r.m.length c3] 32]) (fun n => 9 - n) 0 rfl (by repeat' (first | exact Sub.nil | refine Sub.cons rfl ?_ | refine Sub.consi rfl (by omega) ?_)) ?_ ?_ ?_
  · exact Nat.zero_le _
  · exact fun w' c' => c'
  · intro n hn
    by_cases hn9 : n < 9
    · have hok := seqG_ok hR hO n
      have e1 : seqG r o (n + 1) = rndG r (seqG r o n) r.m.length := rfl
      generalize hQ0 : seqG r o n = O at *
      repeat' (first
        | (show AT _ _ _ (wpList _ _ _ (_ :: _)); first
           | (show AT _ _ _ (wpList _ _ _ (⟨_, Op.move _, _, _, _, _⟩ :: _)); refine st_y (y_move rfl) rfl ?_)
           | (show AT _ _ _ (wpList _ _ _ (⟨_, Op.assign _, _, _, _, _⟩ :: _)); refine st_y (y_assign rfl) rfl ?_)
           | (show AT _ _ _ (wpList _ _ _ (⟨_, Op.binOp _ _ _ _ _, _, _, _, _⟩ :: _)); refine st_y (y_lss rfl rfl) rfl ?_))
        | (show AT _ _ _ (wpList _ _ _ []); refine c_nil (x_then ?_))
        | (show AT _ _ _ (Code.wp _ _ _); first | refine c_seq ?_ | refine c_region ?_ | refine c_skip (x_then ?_) | refine c_block ?_ | refine c_ift rfl (by first | assumption | omega) ?_))
      refine c_loopH (α := Nat) [2, 5, 6] (fun i => [(7, .int .i64 i)]) (fun i => i ≤ r.m.length) (fun i => [.own (spsT 61 (rndG r O i)) (.slice al r.d.length cl), .own (.s 61 2 (us.map T.c)) (.slice av r.d.length cv), .blk b2 #[iV r.p, iV r.q.1, .slice a0 r.q.2.1.length c0, .slice a1 r.q.2.2.length c1, .slice a2 r.d.length c2, .slice a3 r.m.length c3] 32]) (fun i => r.m.length - i) 0 rfl (by repeat' (first | exact Sub.nil | refine Sub.cons rfl ?_ | refine Sub.consi rfl (by omega) ?_)) ?_ ?_ ?_
      · exact Nat.zero_le _
      · exact fun w' c' => c'
      · intro i hi
        by_cases hin : i < r.m.length
        · have hoi := (rndG_ok hR hok i hi).1
          obtain ⟨s, t, R, C, m, A, B, es, et, hsl2, htl, hi1, hi2, hm, hA, hB, hR4, hC4, hM, _, hAC, hBR, hAr, hAn, hBr, hBn, eS, eI, eU⟩ := stpG_at hR hoi hin
          have hol2 := hoi.1
          obtain ⟨a6, c6, k1, k2, k3, k4⟩ := hg3 i m hm
          have gF := hg0 i hi1
          rw [es] at gF
          have gT := hg1 i hi2
          rw [et] at gT
          have e2 : rndG r O (i + 1) = (rndG r O i).set t (sumS r.p B (imsS r.p m A)) := eS
          generalize rndG r O i = Q at *
          repeat' (first
            | (show AT _ _ _ (wpList _ _ _ (_ :: _)); first
               | (show AT _ _ _ (wpList _ _ _ (⟨_, Op.move _, _, _, _, _⟩ :: _)); refine st_y (y_move rfl) rfl ?_)
               | (show AT _ _ _ (wpList _ _ _ (⟨_, Op.assign _, _, _, _, _⟩ :: _)); refine st_y (y_assign rfl) rfl ?_)
               | (show AT _ _ _ (wpList _ _ _ (⟨_, Op.fieldAddr _ _ _, _, _, _, _⟩ :: _)); refine st_y (y_field tabs rfl rfl rfl) rfl ?_)
               | (show AT _ _ _ (wpList _ _ _ (⟨_, Op.load _ _, _, _, _, _⟩ :: _)); first | refine st_y (y_load tabs rfl rfl (hc_blk 2 rfl rfl)) rfl ?_ | refine st_y (y_load tabs rfl rfl (hc_out gT)) rfl ?_)
               | (show AT _ _ _ (wpList _ _ _ (⟨_, Op.indexAddr _ _ _, _, _, _, _⟩ :: _)); refine st_y (y_ix1 tabs (j := i) rfl rfl rfl hs1 rfl hi2) rfl ?_)
               | (show AT _ _ _ (wpList _ _ _ (⟨_, Op.binOp _ _ _ _ _, _, _, _, _⟩ :: _)); refine st_y (y_lss rfl rfl) rfl ?_)
               | (show AT _ _ _ (wpList _ _ _ (⟨_, Op.call _, _, _, _, _⟩ :: _)); refine st_y (y_len tabs rfl rfl) rfl ?_))
            | (show AT _ _ _ (wpList _ _ _ []); refine c_nil (x_then ?_))
            | (show AT _ _ _ (Code.wp _ _ _); first | refine c_seq ?_ | refine c_region ?_ | refine c_skip (x_then ?_) | refine c_block ?_ | refine c_ift rfl (by first | assumption | omega) ?_))
          refine AT.opn 0 rfl (fun us2 hus2 => ?_)
          rw [flatMap_length spT_length] at hus2
          refine AT.fact (sps_open 1 rfl hus2 hA) (fun hfA => ?_)
          obtain ⟨aA, cA, fA1, fA2⟩ := hfA
          refine AT.fact (sps_open 1 rfl hus2 hB) (fun hfB => ?_)
          obtain ⟨aB, cB, fB1, fB2⟩ := hfB
          refine c_all (Hp M' w [.own (.s 61 2 (us2.map T.c)) (.slice al r.d.length cl), .ownL (Q.flatMap spT) us2, .own (.s 61 2 (us.map T.c)) (.slice av r.d.length cv), .blk b2 #[iV r.p, iV r.q.1, .slice a0 r.q.2.1.length c0, .slice a1 r.q.2.2.length c1, .slice a2 r.d.length c2, .slice a3 r.m.length c3] 32]) (by kernel_rfl) (fun _ c => Hp.drew c) ?_
          refine fl_begin 20 rfl tabs rfl rfl ?_
          refine fl_take 0 rfl (by kernel_rfl) (by kernel_rfl) (by kernel_rfl) (by kernel_rfl) (by kernel_rfl) (by kernel_rfl) (by exact y_field tabs rfl rfl rfl) rfl (fun _ c => c) ?_
          refine fl_take 1 rfl (by kernel_rfl) (by kernel_rfl) (by kernel_rfl) (by kernel_rfl) (by kernel_rfl) (by kernel_rfl) (by exact y_load tabs rfl rfl (hc_blk 3 rfl rfl)) rfl (fun _ c => c) ?_
          refine fl_take 2 rfl (by kernel_rfl) (by kernel_rfl) (by kernel_rfl) (by kernel_rfl) (by kernel_rfl) (by kernel_rfl) (by exact y_field tabs rfl rfl rfl) rfl (fun _ c => c) ?_
          refine fl_take 3 rfl (by kernel_rfl) (by kernel_rfl) (by kernel_rfl) (by kernel_rfl) (by kernel_rfl) (by kernel_rfl) (by exact y_load tabs rfl rfl (hc_blk 3 rfl rfl)) rfl (fun _ c => c) ?_
          refine fl_take 4 rfl (by kernel_rfl) (by kernel_rfl) (by kernel_rfl) (by kernel_rfl) (by kernel_rfl) (by kernel_rfl) (by exact y_move rfl) rfl (fun _ c => c) ?_
          refine fl_take 5 rfl (by kernel_rfl) (by kernel_rfl) (by kernel_rfl) (by kernel_rfl) (by kernel_rfl) (by kernel_rfl) (by exact y_ixa tabs rfl rfl rfl hs3 (by omega) (by omega)) rfl (fun _ c => c) ?_
          refine fl_take 6 rfl (by kernel_rfl) (by kernel_rfl) (by kernel_rfl) (by kernel_rfl) (by kernel_rfl) (by kernel_rfl) (by exact y_load3 tabs rfl rfl (hc_out k1) (hc_out k2) (hc_out k3)) rfl (fun _ c => c) ?_
          refine fl_take 7 rfl (by kernel_rfl) (by kernel_rfl) (by kernel_rfl) (by kernel_rfl) (by kernel_rfl) (by kernel_rfl) (by exact y_move rfl) rfl (fun _ c => c) ?_
          refine fl_take 8 rfl (by kernel_rfl) (by kernel_rfl) (by kernel_rfl) (by kernel_rfl) (by kernel_rfl) (by kernel_rfl) (by exact y_field tabs rfl rfl rfl) rfl (fun _ c => c) ?_
          refine fl_take 9 rfl (by kernel_rfl) (by kernel_rfl) (by kernel_rfl) (by kernel_rfl) (by kernel_rfl) (by kernel_rfl) (by exact y_field tabs rfl rfl rfl) rfl (fun _ c => c) ?_
          refine fl_take 10 rfl (by kernel_rfl) (by kernel_rfl) (by kernel_rfl) (by kernel_rfl) (by kernel_rfl) (by kernel_rfl) (by exact y_load tabs rfl rfl (hc_blk 3 rfl rfl)) rfl (fun _ c => c) ?_
          refine fl_take 11 rfl (by kernel_rfl) (by kernel_rfl) (by kernel_rfl) (by kernel_rfl) (by kernel_rfl) (by kernel_rfl) (by exact y_move rfl) rfl (fun _ c => c) ?_
          refine fl_take 12 rfl (by kernel_rfl) (by kernel_rfl) (by kernel_rfl) (by kernel_rfl) (by kernel_rfl) (by kernel_rfl) (by exact y_ix1 tabs (j := i) rfl rfl rfl hs0 rfl hi1) rfl (fun _ c => c) ?_
          refine fl_take 13 rfl (by kernel_rfl) (by kernel_rfl) (by kernel_rfl) (by kernel_rfl) (by kernel_rfl) (by kernel_rfl) (by exact y_load tabs rfl rfl (hc_out gF)) rfl (fun _ c => c) ?_
          refine fl_take 14 rfl (by kernel_rfl) (by kernel_rfl) (by kernel_rfl) (by kernel_rfl) (by kernel_rfl) (by kernel_rfl) (by exact y_ixa tabs rfl rfl rfl hsl (by omega) (by omega)) rfl (fun _ c => c) ?_
          refine fl_take 15 rfl (by kernel_rfl) (by kernel_rfl) (by kernel_rfl) (by kernel_rfl) (by kernel_rfl) (by kernel_rfl) (by exact y_load2 tabs rfl rfl (hc_nmk (q := s * 2) 0 (by decide) rfl fA1) (hc_nmk (q := s * 2 + 1) 0 (by decide) rfl fA2)) rfl (fun _ c => c) ?_
          (refine fl_call 16 rfl rfl (by kernel_rfl) tabs rfl rfl rfl (by kernel_rfl) (by kernel_rfl) (by kernel_rfl) (ent_of Try.func44 (by kernel_rfl) rfl) rfl rfl (fun w c => spec_ImageOfSpace_ok (m := m) (s := A) (k4.rd c) (sps_rd 1 rfl hA fA2 c)) (fun w c => by first | exact c | exact c.drop | exact c.drop.drop | exact Hp.sub (List.sublist_append_right _ _) c | exact c.sub (by repeat' first | exact List.Sublist.refl _ | exact List.nil_sublist _ | apply List.Sublist.cons_cons | apply List.Sublist.cons)) ?_; rintro v H' ⟨a9, c9, rfl, hs9, rfl⟩)
          refine fl_take 17 rfl (by kernel_rfl) (by kernel_rfl) (by kernel_rfl) (by kernel_rfl) (by kernel_rfl) (by kernel_rfl) (by exact y_move rfl) rfl (fun w c => by exact c.drop) ?_
          refine fl_take 18 rfl (by kernel_rfl) (by kernel_rfl) (by kernel_rfl) (by kernel_rfl) (by kernel_rfl) (by kernel_rfl) (by exact y_ext rfl rfl) rfl (fun w c => by exact c.drop) ?_
          refine fl_take 19 rfl (by kernel_rfl) (by kernel_rfl) (by kernel_rfl) (by kernel_rfl) (by kernel_rfl) (by kernel_rfl) (by exact y_ext rfl rfl) rfl (fun w c => by exact c.drop) ?_
          refine fl_end rfl tabs rfl rfl rfl (by kernel_rfl) (fun w c => by exact c.drop) (fun bf hbf => ?_)
          refine h_only 21 rfl (by kernel_rfl) ?_
          (refine m_storeb 0 tabs rfl rfl rfl rfl rfl rfl rfl ?_)
          refine c_nil (x_one (h_keep (fun w c => by exact c.drop.drop) ?_))
          refine h_take 22 rfl (by kernel_rfl) (by kernel_rfl) (by kernel_rfl) (by exact y_assign rfl) rfl (fun w c => by exact c.drop.drop) ?_
          refine h_end (by kernel_rfl) ?_
          repeat' (first
            | (show AT _ _ _ _; refine x_then ?_))
          refine c_all (Hp M' w [.blk bf #[iV (imsS r.p m A).1, .slice a9 (imsS r.p m A).2.length c9] 61, .blk b2 #[iV r.p, iV r.q.1, .slice a0 r.q.2.1.length c0, .slice a1 r.q.2.2.length c1, .slice a2 r.d.length c2, .slice a3 r.m.length c3] 32]) (by kernel_rfl) (fun _ c => Hp.drew c) ?_
          refine h_take 0 rfl (by kernel_rfl) (by kernel_rfl) (by kernel_rfl) (by exact y_move rfl) rfl (fun w c => by exact c.sub (by repeat' first | exact List.Sublist.refl _ | exact List.nil_sublist _ | apply List.Sublist.cons_cons | apply List.Sublist.cons)) ?_
          refine h_take 1 rfl (by kernel_rfl) (by kernel_rfl) (by kernel_rfl) (by exact y_move rfl) rfl (fun w c => by exact c.sub (by repeat' first | exact List.Sublist.refl _ | exact List.nil_sublist _ | apply List.Sublist.cons_cons | apply List.Sublist.cons)) ?_
          refine h_take 2 rfl (by kernel_rfl) (by kernel_rfl) (by kernel_rfl) (by exact y_field tabs rfl rfl rfl) rfl (fun w c => by exact c.sub (by repeat' first | exact List.Sublist.refl _ | exact List.nil_sublist _ | apply List.Sublist.cons_cons | apply List.Sublist.cons)) ?_
          refine h_take 3 rfl (by kernel_rfl) (by kernel_rfl) (by kernel_rfl) (by exact y_load tabs rfl rfl (hc_blk 1 rfl rfl)) rfl (fun w c => by exact c.sub (by repeat' first | exact List.Sublist.refl _ | exact List.nil_sublist _ | apply List.Sublist.cons_cons | apply List.Sublist.cons)) ?_
          refine h_take 4 rfl (by kernel_rfl) (by kernel_rfl) (by kernel_rfl) (by exact y_move rfl) rfl (fun w c => by exact c.sub (by repeat' first | exact List.Sublist.refl _ | exact List.nil_sublist _ | apply List.Sublist.cons_cons | apply List.Sublist.cons)) ?_
          refine h_take 5 rfl (by kernel_rfl) (by kernel_rfl) (by kernel_rfl) (by exact y_move rfl) rfl (fun w c => by exact c.sub (by repeat' first | exact List.Sublist.refl _ | exact List.nil_sublist _ | apply List.Sublist.cons_cons | apply List.Sublist.cons)) ?_
          refine h_take 6 rfl (by kernel_rfl) (by kernel_rfl) (by kernel_rfl) (by exact y_ixa tabs rfl rfl rfl hsl (by omega) (by omega)) rfl (fun w c => by exact c.sub (by repeat' first | exact List.Sublist.refl _ | exact List.nil_sublist _ | apply List.Sublist.cons_cons | apply List.Sublist.cons)) ?_
          refine h_take 8 rfl (by kernel_rfl) (by kernel_rfl) (by kernel_rfl) (by first | exact y_loadb 0 tabs rfl rfl rfl rfl | exact y_loadb 0 tabs rfl rfl rfl rfl) rfl (fun w c => by exact c.sub (by repeat' first | exact List.Sublist.refl _ | exact List.nil_sublist _ | apply List.Sublist.cons_cons | apply List.Sublist.cons)) ?_
          refine h_only 7 rfl (by kernel_rfl) ?_
          first | (refine m_call (ent_of Try.func158 (by kernel_rfl) rfl) rfl rfl (fun w c => spec_AddSpaces_ok (a := B) (b := imsS r.p m A) (sps_rd 3 rfl hB fB2 c) (c.own_rd (i := 1) rfl)) ?_; rintro v H' ⟨a11, c11, rfl, hs11, rfl⟩) | (refine m_storeT tabs (m := r.d.length) (ts := Q.flatMap spT) (tn := spT (sumS r.p B (imsS r.p m A))) (j := t) rfl rfl rfl rfl rfl rfl (by decide) (by rw [flatMap_length spT_length, hol2]) (by omega) (fun w c => (Hp.spc (u0 := iV (sumS r.p B (imsS r.p m A)).1) (((c.front (i := 3) rfl).front (i := 4) rfl).swap.cls.front (i := 1) rfl)).swap) ?_) | (refine st_y (y_load2 tabs rfl rfl (hc_nmk (q := t * 2) 2 (by decide) rfl fB1) (hc_nmk (q := t * 2 + 1) 2 (by decide) rfl fB2)) rfl ?_)
          refine c_nil (x_one (h_keep (fun w c => by exact c.sub (by repeat' first | exact List.Sublist.refl _ | exact List.nil_sublist _ | apply List.Sublist.cons_cons | apply List.Sublist.cons)) ?_))
          refine h_only 9 rfl (by kernel_rfl) ?_
          first | (refine m_call (ent_of Try.func158 (by kernel_rfl) rfl) rfl rfl (fun w c => spec_AddSpaces_ok (a := B) (b := imsS r.p m A) (sps_rd 3 rfl hB fB2 c) (c.own_rd (i := 1) rfl)) ?_; rintro v H' ⟨a11, c11, rfl, hs11, rfl⟩) | (refine m_storeT tabs (m := r.d.length) (ts := Q.flatMap spT) (tn := spT (sumS r.p B (imsS r.p m A))) (j := t) rfl rfl rfl rfl rfl rfl (by decide) (by rw [flatMap_length spT_length, hol2]) (by omega) (fun w c => (Hp.spc (u0 := iV (sumS r.p B (imsS r.p m A)).1) (((c.front (i := 3) rfl).front (i := 4) rfl).swap.cls.front (i := 1) rfl)).swap) ?_) | (refine st_y (y_load2 tabs rfl rfl (hc_nmk (q := t * 2) 2 (by decide) rfl fB1) (hc_nmk (q := t * 2 + 1) 2 (by decide) rfl fB2)) rfl ?_)
          refine c_nil (x_one (h_keep (fun w c => by exact c.sub (by repeat' first | exact List.Sublist.refl _ | exact List.nil_sublist _ | apply List.Sublist.cons_cons | apply List.Sublist.cons)) ?_))
          refine h_take 10 rfl (by kernel_rfl) (by kernel_rfl) (by kernel_rfl) (by exact y_move rfl) rfl (fun w c => by exact c.sub (by repeat' first | exact List.Sublist.refl _ | exact List.nil_sublist _ | apply List.Sublist.cons_cons | apply List.Sublist.cons)) ?_
          refine h_take 11 rfl (by kernel_rfl) (by kernel_rfl) (by kernel_rfl) (by exact y_ext rfl rfl) rfl (fun w c => by exact c.sub (by repeat' first | exact List.Sublist.refl _ | exact List.nil_sublist _ | apply List.Sublist.cons_cons | apply List.Sublist.cons)) ?_
          refine h_take 12 rfl (by kernel_rfl) (by kernel_rfl) (by kernel_rfl) (by exact y_ext rfl rfl) rfl (fun w c => by exact c.sub (by repeat' first | exact List.Sublist.refl _ | exact List.nil_sublist _ | apply List.Sublist.cons_cons | apply List.Sublist.cons)) ?_
          refine h_take 13 rfl (by kernel_rfl) (by kernel_rfl) (by kernel_rfl) (by exact y_ixa tabs rfl rfl rfl hsl (by omega) (by omega)) rfl (fun w c => by exact c.sub (by repeat' first | exact List.Sublist.refl _ | exact List.nil_sublist _ | apply List.Sublist.cons_cons | apply List.Sublist.cons)) ?_
          refine h_only 14 rfl (by kernel_rfl) ?_
          first | (refine m_call (ent_of Try.func158 (by kernel_rfl) rfl) rfl rfl (fun w c => spec_AddSpaces_ok (a := B) (b := imsS r.p m A) (sps_rd 3 rfl hB fB2 c) (c.own_rd (i := 1) rfl)) ?_; rintro v H' ⟨a11, c11, rfl, hs11, rfl⟩) | (refine m_storeT tabs (m := r.d.length) (ts := Q.flatMap spT) (tn := spT (sumS r.p B (imsS r.p m A))) (j := t) rfl rfl rfl rfl rfl rfl (by decide) (by rw [flatMap_length spT_length, hol2]) (by omega) (fun w c => (Hp.spc (u0 := iV (sumS r.p B (imsS r.p m A)).1) (((c.front (i := 3) rfl).front (i := 4) rfl).swap.cls.front (i := 1) rfl)).swap) ?_) | (refine st_y (y_load2 tabs rfl rfl (hc_nmk (q := t * 2) 2 (by decide) rfl fB1) (hc_nmk (q := t * 2 + 1) 2 (by decide) rfl fB2)) rfl ?_)
          refine c_nil (x_one (h_keep (fun w c => by exact c.sub (by repeat' first | exact List.Sublist.refl _ | exact List.nil_sublist _ | apply List.Sublist.cons_cons | apply List.Sublist.cons)) ?_))
          refine h_end (by kernel_rfl) ?_
          repeat' (first
            | (show AT _ _ _ (wpList _ _ _ (_ :: _)); first
               | (show AT _ _ _ (wpList _ _ _ (⟨_, Op.move _, _, _, _, _⟩ :: _)); refine st_y (y_move rfl) rfl ?_)
               | (show AT _ _ _ (wpList _ _ _ (⟨_, Op.assign _, _, _, _, _⟩ :: _)); refine st_y (y_assign rfl) rfl ?_)
               | (show AT _ _ _ (wpList _ _ _ (⟨_, Op.binOp _ _ _ _ _, _, _, _, _⟩ :: _)); refine st_y (y_add rfl rfl (by omega)) rfl ?_))
            | (show AT _ _ _ (wpList _ _ _ []); refine c_nil (x_then ?_))
            | (show AT _ _ _ (Code.wp _ _ _); refine c_region ?_)
            | (show AT _ _ _ _; first | refine x_then ?_ | refine x_blk ?_))
          refine x_nx (i + 1) (by repeat' (first | exact Sub.nil | refine Sub.cons rfl ?_ | refine Sub.consi rfl (by omega) ?_)) (by omega) (fun w' c' => ?_) (by omega)
          rw [flatMap_set spT_length _ _ _ (by omega), ← e2] at c'
          exact c'.sub (by repeat' first | exact List.Sublist.refl _ | exact List.nil_sublist _ | apply List.Sublist.cons_cons | apply List.Sublist.cons)
        · have : i = r.m.length := by omega
          subst this
          rw [← e1]
          repeat' (first
            | (show AT _ _ _ (wpList _ _ _ (_ :: _)); first
               | (show AT _ _ _ (wpList _ _ _ (⟨_, Op.move _, _, _, _, _⟩ :: _)); refine st_y (y_move rfl) rfl ?_)
               | (show AT _ _ _ (wpList _ _ _ (⟨_, Op.assign _, _, _, _, _⟩ :: _)); refine st_y (y_assign rfl) rfl ?_)
               | (show AT _ _ _ (wpList _ _ _ (⟨_, Op.fieldAddr _ _ _, _, _, _, _⟩ :: _)); refine st_y (y_field tabs rfl rfl rfl) rfl ?_)
               | (show AT _ _ _ (wpList _ _ _ (⟨_, Op.load _ _, _, _, _, _⟩ :: _)); refine st_y (y_load tabs rfl rfl (hc_blk 2 rfl rfl)) rfl ?_)
               | (show AT _ _ _ (wpList _ _ _ (⟨_, Op.binOp _ _ _ _ _, _, _, _, _⟩ :: _)); first | refine st_y (y_add rfl rfl (by omega)) rfl ?_ | refine st_y (y_lss rfl rfl) rfl ?_)
               | (show AT _ _ _ (wpList _ _ _ (⟨_, Op.call _, _, _, _, _⟩ :: _)); refine st_y (y_len tabs rfl rfl) rfl ?_))
            | (show AT _ _ _ (wpList _ _ _ []); refine c_nil (x_then ?_))
            | (show AT _ _ _ (Code.wp _ _ _); first | refine c_seq ?_ | refine c_region ?_ | refine c_exit ?_ | refine c_iff rfl (by first | assumption | exact not_not_intro (by assumption) | omega) ?_)
            | (show AT _ _ _ _; first | refine x_then ?_ | refine x_then_exit ?_ | refine x_blk_exit rfl ?_ | refine x_blk ?_))
          refine x_nx (n + 1) (by repeat' (first | exact Sub.nil | refine Sub.cons rfl ?_ | refine Sub.consi rfl (by omega) ?_)) (by omega) (fun w' c' => c') (by omega)
    · have : n = 9 := by omega
      subst this
      repeat' (first
        | (show AT _ _ _ (wpList _ _ _ (_ :: _)); first
           | (show AT _ _ _ (wpList _ _ _ (⟨_, Op.move _, _, _, _, _⟩ :: _)); refine st_y (y_move rfl) rfl ?_)
           | (show AT _ _ _ (wpList _ _ _ (⟨_, Op.assign _, _, _, _, _⟩ :: _)); refine st_y (y_assign rfl) rfl ?_)
           | (show AT _ _ _ (wpList _ _ _ (⟨_, Op.binOp _ _ _ _ _, _, _, _, _⟩ :: _)); refine st_y (y_lss rfl rfl) rfl ?_))
        | (show AT _ _ _ (wpList _ _ _ []); refine c_nil (x_then ?_))
        | (show AT _ _ _ (Code.wp _ _ _); first | refine c_seq ?_ | refine c_region ?_ | refine c_ret ?_ | refine c_exit ?_ | refine c_false rfl ?_)
        | (show AT _ _ _ _; first | refine x_then ?_ | refine x_then_exit ?_ | refine x_blk_exit rfl ?_))
      exact x_ret1 Try.results117 (res_tmp rfl) (fun w' c' => ⟨_, _, rfl, ⟨al, cl, us.map T.c, rfl, hsl, rfl⟩, c'.sub (.cons_cons _ (.cons_cons _ (List.nil_sublist _)))⟩)
theorem spec_GeneratedSub_ok {w : World} {r : Rp} {v : Int} {xs : List Int} {e : Nat} {u0 u1 u2 u3 ux : Value} (h0 : Rd w (iT r.q.2.1) u0) (h1 : Rd w (iT r.q.2.2) u1) (h2 : Rd w (iT r.d) u2) (h3 : Rd w (matsT e r.m) u3) (hx : Rd w (iT xs) ux) :
    Does Try.prog 60 [.agg #[iV r.p, iV r.q.1, u0, u1, u2, u3], iV v, ux] w (GivesSpsB (genL r v xs) (decide (GenP r v xs))) := by
  have h20 := h2
  have hx0 := hx
  obtain ⟨a0, c0, rfl, _⟩ := h0.ints
  obtain ⟨a1, c1, rfl, _⟩ := h1.ints
  obtain ⟨a2, c2, rfl, hs2, hd1, hd2, hg2⟩ := h2.ints
  obtain ⟨ax, cx, rfl, _⟩ := hx.ints
  obtain ⟨a3, c3, rfl, _⟩ := rd_mats h3
  unfold maxLen at hd2
  by_cases hR : RepP r
  · have hdv := hR.dg v.toNat
    by_cases hV : 0 ≤ v ∧ v ≤ (r.d.length : Int) - 1
    · obtain ⟨n, hn⟩ : ∃ n : Nat, v = n := ⟨v.toNat, by omega⟩
      subst hn
      simp only [Int.toNat_natCast] at hdv
      have hnl : n < r.d.length := by omega
      have gD := hg2 n hnl
      by_cases hG : GenP r n xs
      · rw [genL, if_pos hG, decide_eq_true hG]
        have hF := hR.1
        have h5 := (RepP.dd hR).2
        have hX := hG.2.2.1
        have hl := hG.2.2.2
        simp only [Int.toNat_natCast] at hl ⊢
        have hB0 := begG_ok hR hnl hX hl
        obtain ⟨C0, hC0⟩ : ∃ C : Nat, r.d.getD n 0 = C := ⟨(r.d.getD n 0).toNat, by omega⟩
        have hxl : xs.length = C0 := by omega
        have hrow : RowsP r.p C0 [xs] := fun y hy => by simp at hy; subst hy; exact ⟨hxl, hX.2.2⟩
        have eB : begG r n xs = (zsN r.d r.d.length).set n ((C0 : Int), basL r.p C0 [xs]) := by unfold begG; rw [hC0]; rfl
        have gD' := gD
        rw [hC0] at gD'
        have hl9 := (seqG_ok hR hB0 9).1
        refine fn_enter Try.func60 rfl Try.ntmps60 rfl ?_
        repeat' (first
          | (show AT _ _ _ (wpList _ _ _ (_ :: _)); first
             | (show AT _ _ _ (wpList _ _ _ (⟨_, Op.move _, _, _, _, _⟩ :: _)); refine st_y (y_move rfl) rfl ?_)
             | (show AT _ _ _ (wpList _ _ _ (⟨_, Op.assign _, _, _, _, _⟩ :: _)); refine st_y (y_assign rfl) rfl ?_)
             | (show AT _ _ _ (wpList _ _ _ (⟨_, Op.fieldAddr _ _ _, _, _, _, _⟩ :: _)); refine st_y (y_field tabs rfl rfl rfl) rfl ?_)
             | (show AT _ _ _ (wpList _ _ _ (⟨_, Op.load _ _, _, _, _, _⟩ :: _)); first | refine st_y (y_loadb 0 tabs rfl rfl rfl rfl) rfl ?_ | refine st_y (y_load tabs rfl rfl (hc_blk 0 rfl rfl)) rfl ?_ | refine st_y (y_load tabs rfl rfl (hc_w0 gD)) rfl ?_)
             | (show AT _ _ _ (wpList _ _ _ (⟨_, Op.indexAddr _ _ _, _, _, _, _⟩ :: _)); refine st_y (y_ix1 tabs (j := n) rfl rfl rfl hs2 rfl hnl) rfl ?_)
             | (show AT _ _ _ (wpList _ _ _ (⟨_, Op.binOp _ _ _ _ _, _, _, _, _⟩ :: _)); first | refine st_y (y_sub rfl rfl (by omega)) rfl ?_ | refine st_y (y_neq rfl rfl) rfl ?_)
             | (show AT _ _ _ (wpList _ _ _ (⟨_, Op.unOp _ _ _, _, _, _, _⟩ :: _)); refine st_y (y_notd rfl) rfl ?_)
             | (show AT _ _ _ (wpList _ _ _ (⟨_, Op.call _, _, _, _, _⟩ :: _)); first | (refine m_call (ent_of Try.func66 (by kernel_rfl) rfl) rfl rfl (fun w c => spec_IsRep_ok (r := r) (c.rd h0) (c.rd h1) (c.rd h20) (c.rd h3)) ?_; rintro v H' ⟨rfl, rfl⟩) | (refine m_call (ent_of Try.func67 (by kernel_rfl) rfl) rfl rfl (fun w c => l1In_ok _ _ _) ?_; rintro v H' ⟨rfl, rfl⟩) | (refine m_call (ent_of Try.func115 (by kernel_rfl) rfl) rfl rfl (fun w c => spec_IsVector_ok (c.rd hx0)) ?_; rintro v H' ⟨rfl, rfl⟩) | (refine m_call (ent_of Try.func116 (by kernel_rfl) rfl) rfl rfl (fun w c => l12Zero_ok (c.rd h20) (by omega)) ?_; rintro v H' ⟨az, cz, rfl, hsz, rfl⟩) | refine st_y (y_len tabs rfl rfl) rfl ?_)
             | (show AT _ _ _ (wpList _ _ _ (⟨_, Op.pick _ _ _, _, _, _, _⟩ :: _)); first | refine st_y (y_pickt rfl (by first | assumption | omega) rfl) rfl ?_ | refine st_y (y_pickf rfl (by first | assumption | omega) rfl) rfl ?_ | refine st_y (y_pick rfl rfl rfl) rfl ?_)
             | (show AT _ _ _ (wpList _ _ _ (⟨_, Op.box _ _, _, _, _, _⟩ :: _)); refine m_box rfl rfl (fun b3 hb3 => ?_))
             | (show AT _ _ _ (wpList _ _ _ (⟨_, Op.buildSlice _ _ _, _, _, _, _⟩ :: _)); refine m_build0 tabs rfl rfl (fun g hg => ?_))
             | refine st_gn rfl rfl rfl ?_ | refine st_gfy rfl rfl (by first | assumption | omega) ?_ | refine st_gfn rfl rfl (by first | assumption | omega) rfl ?_ | refine st_gd rfl rfl (fun h => ?_) (fun h => ?_))
          | (show AT _ _ _ (wpList _ _ _ []); refine c_nil (x_then ?_))
          | (show AT _ _ _ (Code.wp _ _ _); first | refine c_seq ?_ | refine c_region ?_ | refine c_skip (x_then ?_) | refine c_ret ?_ | refine c_true rfl ?_ | refine c_iff rfl (by first | assumption | exact not_not_intro (by assumption) | omega) ?_)
          | (show AT _ _ _ _; refine x_then_ret ?_))
        all_goals first | exact absurd hR (by assumption) | exact absurd hV (by assumption) | exact absurd hX (by assumption) | exact absurd hl (by assumption) | skip
        rw [zsN_len] at hsz ⊢
        refine c_all (Hp [] w [.blk b3 #[iV r.p, iV r.q.1, .slice a0 r.q.2.1.length c0, .slice a1 r.q.2.2.length c1, .slice a2 r.d.length c2, .slice a3 r.m.length c3] 32]) (by kernel_rfl) (fun _ c => Hp.drew c) ?_
        refine h_take 0 rfl (by kernel_rfl) (by kernel_rfl) (by kernel_rfl) (by exact y_move rfl) rfl (fun w c => by exact c.drop) ?_
        refine h_take 1 rfl (by kernel_rfl) (by kernel_rfl) (by kernel_rfl) (by exact y_move rfl) rfl (fun w c => by exact c.drop) ?_
        refine h_take 2 rfl (by kernel_rfl) (by kernel_rfl) (by kernel_rfl) (by exact y_field tabs rfl rfl rfl) rfl (fun w c => by exact c.drop) ?_
        refine h_take 3 rfl (by kernel_rfl) (by kernel_rfl) (by kernel_rfl) (by exact y_load tabs rfl rfl (hc_blk 0 rfl rfl)) rfl (fun w c => by exact c.drop) ?_
        refine h_take 4 rfl (by kernel_rfl) (by kernel_rfl) (by kernel_rfl) (by exact y_field tabs rfl rfl rfl) rfl (fun w c => by exact c.drop) ?_
        refine h_take 5 rfl (by kernel_rfl) (by kernel_rfl) (by kernel_rfl) (by exact y_load tabs rfl rfl (hc_blk 0 rfl rfl)) rfl (fun w c => by exact c.drop) ?_
        refine h_take 6 rfl (by kernel_rfl) (by kernel_rfl) (by kernel_rfl) (by exact y_move rfl) rfl (fun w c => by exact c.drop) ?_
        refine h_take 7 rfl (by kernel_rfl) (by kernel_rfl) (by kernel_rfl) (by exact y_ix1 tabs (j := n) rfl rfl rfl hs2 rfl hnl) rfl (fun w c => by exact c.drop) ?_
        refine h_take 8 rfl (by kernel_rfl) (by kernel_rfl) (by kernel_rfl) (by exact y_load tabs rfl rfl (hc_w0 gD')) rfl (fun w c => by exact c.drop) ?_
        refine h_take 9 rfl (by kernel_rfl) (by kernel_rfl) (by kernel_rfl) (by exact y_move rfl) rfl (fun w c => by exact c.drop) ?_
        refine h_only 10 rfl (by kernel_rfl) ?_
        first | (refine m_build1 tabs (us := [.slice ax xs.length cx]) rfl rfl rfl rfl (by decide) rfl (fun g2 hg2 => ?_)) | (refine m_call (ent_of Try.func99 (by kernel_rfl) rfl) rfl rfl (fun w c => l5Span_ok (C := C0) (rs := [xs]) (rd_blk1 (e' := 22) 0 rfl c (c.rd hx)) hF hrow (by simp) (by omega)) ?_; rintro v H' ⟨a7, c7, rfl, hs7, rfl⟩) | (refine m_storeT tabs (m := r.d.length) (tn := spT ((C0 : Int), basL r.p C0 [xs])) (j := n) rfl rfl rfl rfl rfl rfl (by decide) (by rw [flatMap_length spT_length, zsN_len]) hnl (fun w c => (Hp.spc (u0 := iV C0) c).front (i := 2) rfl) ?_)
        refine c_nil (x_one (h_keep (fun w c => by exact c.drop.drop) ?_))
        refine h_only 11 rfl (by kernel_rfl) ?_
        first | (refine m_build1 tabs (us := [.slice ax xs.length cx]) rfl rfl rfl rfl (by decide) rfl (fun g2 hg2 => ?_)) | (refine m_call (ent_of Try.func99 (by kernel_rfl) rfl) rfl rfl (fun w c => l5Span_ok (C := C0) (rs := [xs]) (rd_blk1 (e' := 22) 0 rfl c (c.rd hx)) hF hrow (by simp) (by omega)) ?_; rintro v H' ⟨a7, c7, rfl, hs7, rfl⟩) | (refine m_storeT tabs (m := r.d.length) (tn := spT ((C0 : Int), basL r.p C0 [xs])) (j := n) rfl rfl rfl rfl rfl rfl (by decide) (by rw [flatMap_length spT_length, zsN_len]) hnl (fun w c => (Hp.spc (u0 := iV C0) c).front (i := 2) rfl) ?_)
        refine c_nil (x_one (h_keep (fun w c => by exact c.sub (by repeat' first | exact List.Sublist.refl _ | exact List.nil_sublist _ | apply List.Sublist.cons_cons | apply List.Sublist.cons)) ?_))
        refine h_take 12 rfl (by kernel_rfl) (by kernel_rfl) (by kernel_rfl) (by exact y_ixa tabs rfl rfl rfl hsz (by omega) (by omega)) rfl (fun w c => by exact c.sub (by repeat' first | exact List.Sublist.refl _ | exact List.nil_sublist _ | apply List.Sublist.cons_cons | apply List.Sublist.cons)) ?_
        refine h_only 13 rfl (by kernel_rfl) ?_
        first | (refine m_build1 tabs (us := [.slice ax xs.length cx]) rfl rfl rfl rfl (by decide) rfl (fun g2 hg2 => ?_)) | (refine m_call (ent_of Try.func99 (by kernel_rfl) rfl) rfl rfl (fun w c => l5Span_ok (C := C0) (rs := [xs]) (rd_blk1 (e' := 22) 0 rfl c (c.rd hx)) hF hrow (by simp) (by omega)) ?_; rintro v H' ⟨a7, c7, rfl, hs7, rfl⟩) | (refine m_storeT tabs (m := r.d.length) (tn := spT ((C0 : Int), basL r.p C0 [xs])) (j := n) rfl rfl rfl rfl rfl rfl (by decide) (by rw [flatMap_length spT_length, zsN_len]) hnl (fun w c => (Hp.spc (u0 := iV C0) c).front (i := 2) rfl) ?_)
        refine c_nil (x_one (h_keep (fun w c => by exact c.drop.drop) ?_))
        refine h_end (by kernel_rfl) ?_
        rw [flatMap_set spT_length _ _ _ (by rw [zsN_len]; exact hnl), ← eB]
        repeat' (first
          | (show AT _ _ _ (wpList _ _ _ (_ :: _)); first
             | (show AT _ _ _ (wpList _ _ _ (⟨_, Op.move _, _, _, _, _⟩ :: _)); refine st_y (y_move rfl) rfl ?_)
             | (show AT _ _ _ (wpList _ _ _ (⟨_, Op.assign _, _, _, _, _⟩ :: _)); refine st_y (y_assign rfl) rfl ?_)
             | (show AT _ _ _ (wpList _ _ _ (⟨_, Op.load _ _, _, _, _, _⟩ :: _)); refine st_y (y_loadb 2 tabs rfl rfl rfl rfl) rfl ?_)
             | (show AT _ _ _ (wpList _ _ _ (⟨_, Op.call _, _, _, _, _⟩ :: _)); (refine m_callL 0 (ent_of Try.func117 (by kernel_rfl) rfl) rfl rfl rfl (fun w M' hl => l12Close_ok hl (hl.old h0) (hl.old h1) (hl.old h20) (hl.old h3) hR hB0) ?_; rintro v H' ⟨a9, c9, us9, rfl, hs9, rfl⟩)))
          | (show AT _ _ _ (wpList _ _ _ []); refine c_nil (x_then ?_))
          | (show AT _ _ _ (Code.wp _ _ _); first | refine c_seq ?_ | refine c_region ?_ | refine c_ret ?_)
          | (show AT _ _ _ _; refine x_then ?_))
        exact x_ret2 Try.results60 (res_tmp rfl) (res_tmp rfl) (fun w' c' => ⟨_, [.own (spsT 61 (seqG r (begG r n xs) 9)) (.slice a9 r.d.length c9)], rfl, ⟨a9, c9, by rw [hl9], by rw [hl9]; exact hs9, by rw [hl9]⟩, c'.sub (.cons_cons _ (List.nil_sublist _))⟩)
      · rw [genL, if_neg hG, decide_eq_false hG]
        have hG2 : ¬ (VecP r.p xs ∧ (xs.length : Int) = r.d.getD n 0) := fun h => hG ⟨hR, ⟨by omega, by omega⟩, h.1, h.2⟩
        refine fn_enter Try.func60 rfl Try.ntmps60 rfl ?_
        repeat' (first
          | (show AT _ _ _ (wpList _ _ _ (_ :: _)); first
             | (show AT _ _ _ (wpList _ _ _ (⟨_, Op.move _, _, _, _, _⟩ :: _)); refine st_y (y_move rfl) rfl ?_)
             | (show AT _ _ _ (wpList _ _ _ (⟨_, Op.assign _, _, _, _, _⟩ :: _)); refine st_y (y_assign rfl) rfl ?_)
             | (show AT _ _ _ (wpList _ _ _ (⟨_, Op.fieldAddr _ _ _, _, _, _, _⟩ :: _)); refine st_y (y_field tabs rfl rfl rfl) rfl ?_)
             | (show AT _ _ _ (wpList _ _ _ (⟨_, Op.load _ _, _, _, _, _⟩ :: _)); first | refine st_y (y_loadb 0 tabs rfl rfl rfl rfl) rfl ?_ | refine st_y (y_load tabs rfl rfl (hc_blk 0 rfl rfl)) rfl ?_ | refine st_y (y_load tabs rfl rfl (hc_w0 gD)) rfl ?_)
             | (show AT _ _ _ (wpList _ _ _ (⟨_, Op.indexAddr _ _ _, _, _, _, _⟩ :: _)); refine st_y (y_ix1 tabs (j := n) rfl rfl rfl hs2 rfl hnl) rfl ?_)
             | (show AT _ _ _ (wpList _ _ _ (⟨_, Op.binOp _ _ _ _ _, _, _, _, _⟩ :: _)); first | refine st_y (y_sub rfl rfl (by omega)) rfl ?_ | refine st_y (y_neq rfl rfl) rfl ?_)
             | (show AT _ _ _ (wpList _ _ _ (⟨_, Op.unOp _ _ _, _, _, _, _⟩ :: _)); refine st_y (y_notd rfl) rfl ?_)
             | (show AT _ _ _ (wpList _ _ _ (⟨_, Op.call _, _, _, _, _⟩ :: _)); first | (refine m_call (ent_of Try.func66 (by kernel_rfl) rfl) rfl rfl (fun w c => spec_IsRep_ok (r := r) (c.rd h0) (c.rd h1) (c.rd h20) (c.rd h3)) ?_; rintro v H' ⟨rfl, rfl⟩) | (refine m_call (ent_of Try.func67 (by kernel_rfl) rfl) rfl rfl (fun w c => l1In_ok _ _ _) ?_; rintro v H' ⟨rfl, rfl⟩) | (refine m_call (ent_of Try.func115 (by kernel_rfl) rfl) rfl rfl (fun w c => spec_IsVector_ok (c.rd hx0)) ?_; rintro v H' ⟨rfl, rfl⟩) | refine st_y (y_len tabs rfl rfl) rfl ?_)
             | (show AT _ _ _ (wpList _ _ _ (⟨_, Op.pick _ _ _, _, _, _, _⟩ :: _)); first | refine st_y (y_pickt rfl (by first | assumption | omega) rfl) rfl ?_ | refine st_y (y_pickf rfl (by first | assumption | omega) rfl) rfl ?_ | refine st_y (y_pick rfl rfl rfl) rfl ?_)
             | (show AT _ _ _ (wpList _ _ _ (⟨_, Op.box _ _, _, _, _, _⟩ :: _)); refine m_box rfl rfl (fun b hb => ?_))
             | (show AT _ _ _ (wpList _ _ _ (⟨_, Op.buildSlice _ _ _, _, _, _, _⟩ :: _)); refine m_build0 tabs rfl rfl (fun gq hgq => ?_))
             | refine st_gn rfl rfl rfl ?_ | refine st_gfy rfl rfl (by first | assumption | omega) ?_ | refine st_gfn rfl rfl (by first | assumption | omega) rfl ?_ | refine st_gd rfl rfl (fun h => ?_) (fun h => ?_))
          | (show AT _ _ _ (wpList _ _ _ []); refine c_nil (x_then ?_))
          | (show AT _ _ _ (Code.wp _ _ _); first | refine c_seq ?_ | refine c_region ?_ | refine c_skip (x_then ?_) | refine c_ret ?_ | refine c_true rfl ?_ | refine c_ifnd rfl (fun h => ?_) (fun h => ?_))
          | (show AT _ _ _ _; refine x_then_ret ?_))
        all_goals first
          | exact (hG2 ⟨by first | assumption | exact Decidable.not_not.1 (by assumption), by first | assumption | exact Decidable.not_not.1 (by assumption)⟩).elim
          | exact x_ret2 Try.results60 (res_tmp rfl) (res_tmp rfl) (fun w' c' => ⟨_, _, rfl, ⟨_, 0, rfl, .inl rfl, rfl⟩, c'.sub (.cons_cons _ (List.nil_sublist _))⟩)
    · have hG : ¬ GenP r v xs := fun h => hV ⟨h.2.1.1, by have := h.2.1.2; omega⟩
      rw [genL, if_neg hG, decide_eq_false hG]
      refine fn_enter Try.func60 rfl Try.ntmps60 rfl ?_
      repeat' (first
        | (show AT _ _ _ (wpList _ _ _ (_ :: _)); first
           | (show AT _ _ _ (wpList _ _ _ (⟨_, Op.move _, _, _, _, _⟩ :: _)); refine st_y (y_move rfl) rfl ?_)
           | (show AT _ _ _ (wpList _ _ _ (⟨_, Op.assign _, _, _, _, _⟩ :: _)); refine st_y (y_assign rfl) rfl ?_)
           | (show AT _ _ _ (wpList _ _ _ (⟨_, Op.fieldAddr _ _ _, _, _, _, _⟩ :: _)); refine st_y (y_field tabs rfl rfl rfl) rfl ?_)
           | (show AT _ _ _ (wpList _ _ _ (⟨_, Op.load _ _, _, _, _, _⟩ :: _)); first | refine st_y (y_loadb 0 tabs rfl rfl rfl rfl) rfl ?_ | refine st_y (y_load tabs rfl rfl (hc_blk 0 rfl rfl)) rfl ?_)
           | (show AT _ _ _ (wpList _ _ _ (⟨_, Op.binOp _ _ _ _ _, _, _, _, _⟩ :: _)); refine st_y (y_sub rfl rfl (by omega)) rfl ?_)
           | (show AT _ _ _ (wpList _ _ _ (⟨_, Op.unOp _ _ _, _, _, _, _⟩ :: _)); refine st_y (y_notd rfl) rfl ?_)
           | (show AT _ _ _ (wpList _ _ _ (⟨_, Op.call _, _, _, _, _⟩ :: _)); first | (refine m_call (ent_of Try.func66 (by kernel_rfl) rfl) rfl rfl (fun w c => spec_IsRep_ok (r := r) (c.rd h0) (c.rd h1) (c.rd h20) (c.rd h3)) ?_; rintro v H' ⟨rfl, rfl⟩) | (refine m_call (ent_of Try.func67 (by kernel_rfl) rfl) rfl rfl (fun w c => l1In_ok _ _ _) ?_; rintro v H' ⟨rfl, rfl⟩) | refine st_y (y_len tabs rfl rfl) rfl ?_)
           | (show AT _ _ _ (wpList _ _ _ (⟨_, Op.pick _ _ _, _, _, _, _⟩ :: _)); first | refine st_y (y_pickt rfl (by assumption) rfl) rfl ?_ | refine st_y (y_pickf rfl (by assumption) rfl) rfl ?_ | refine st_y (y_pick rfl rfl rfl) rfl ?_)
           | (show AT _ _ _ (wpList _ _ _ (⟨_, Op.box _ _, _, _, _, _⟩ :: _)); refine m_box rfl rfl (fun b hb => ?_))
           | (show AT _ _ _ (wpList _ _ _ (⟨_, Op.buildSlice _ _ _, _, _, _, _⟩ :: _)); refine m_build0 tabs rfl rfl (fun gq hgq => ?_))
           | refine st_gn rfl rfl rfl ?_ | refine st_gfy rfl rfl (by assumption) ?_ | refine st_gfn rfl rfl (by assumption) rfl ?_ | refine st_gd rfl rfl (fun h => ?_) (fun h => ?_))
        | (show AT _ _ _ (wpList _ _ _ []); refine c_nil (x_then ?_))
        | (show AT _ _ _ (Code.wp _ _ _); first | refine c_seq ?_ | refine c_region ?_ | refine c_ret ?_ | refine c_true rfl ?_)
        | (show AT _ _ _ _; refine x_then_ret ?_))
      all_goals first
        | exact absurd (by first | assumption | exact Decidable.not_not.1 (by assumption)) hV
        | exact x_ret2 Try.results60 (res_tmp rfl) (res_tmp rfl) (fun w' c' => ⟨_, _, rfl, ⟨_, 0, rfl, .inl rfl, rfl⟩, c'.sub (.cons_cons _ (List.nil_sublist _))⟩)
  · have hG : ¬ GenP r v xs := fun h => hR h.1
    rw [genL, if_neg hG, decide_eq_false hG]
    refine fn_enter Try.func60 rfl Try.ntmps60 rfl ?_
    repeat' (first
      | (show AT _ _ _ (wpList _ _ _ (_ :: _)); first
         | (show AT _ _ _ (wpList _ _ _ (⟨_, Op.move _, _, _, _, _⟩ :: _)); refine st_y (y_move rfl) rfl ?_)
         | (show AT _ _ _ (wpList _ _ _ (⟨_, Op.assign _, _, _, _, _⟩ :: _)); refine st_y (y_assign rfl) rfl ?_)
         | (show AT _ _ _ (wpList _ _ _ (⟨_, Op.load _ _, _, _, _, _⟩ :: _)); refine st_y (y_loadb 0 tabs rfl rfl rfl rfl) rfl ?_)
         | (show AT _ _ _ (wpList _ _ _ (⟨_, Op.unOp _ _ _, _, _, _, _⟩ :: _)); refine st_y (y_notd rfl) rfl ?_)
         | (show AT _ _ _ (wpList _ _ _ (⟨_, Op.call _, _, _, _, _⟩ :: _)); (refine m_call (ent_of Try.func66 (by kernel_rfl) rfl) rfl rfl (fun w c => spec_IsRep_ok (r := r) (c.rd h0) (c.rd h1) (c.rd h20) (c.rd h3)) ?_; rintro v H' ⟨rfl, rfl⟩))
         | (show AT _ _ _ (wpList _ _ _ (⟨_, Op.pick _ _ _, _, _, _, _⟩ :: _)); first | refine st_y (y_pickt rfl (by assumption) rfl) rfl ?_ | refine st_y (y_pick rfl rfl rfl) rfl ?_)
         | (show AT _ _ _ (wpList _ _ _ (⟨_, Op.box _ _, _, _, _, _⟩ :: _)); refine m_box rfl rfl (fun b hb => ?_))
         | (show AT _ _ _ (wpList _ _ _ (⟨_, Op.buildSlice _ _ _, _, _, _, _⟩ :: _)); refine m_build0 tabs rfl rfl (fun gq hgq => ?_))
         | refine st_gn rfl rfl rfl ?_ | refine st_gfn rfl rfl (by assumption) rfl ?_)
      | (show AT _ _ _ (wpList _ _ _ []); refine c_nil (x_then ?_))
      | (show AT _ _ _ (Code.wp _ _ _); first | refine c_seq ?_ | refine c_region ?_ | refine c_ret ?_ | refine c_true rfl ?_)
      | (show AT _ _ _ _; refine x_then_ret ?_))
    all_goals first
      | exact absurd (by first | assumption | exact Decidable.not_not.1 (by assumption)) hR
      | exact x_ret2 Try.results60 (res_tmp rfl) (res_tmp rfl) (fun w' c' => ⟨_, _, rfl, ⟨_, 0, rfl, .inl rfl, rfl⟩, c'.sub (.cons_cons _ (List.nil_sublist _))⟩)
end Go.Proofs.Ytnmhdmkfhacdbaa
