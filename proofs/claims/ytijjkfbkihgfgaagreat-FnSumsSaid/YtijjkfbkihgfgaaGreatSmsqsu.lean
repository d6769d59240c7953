import Derived.Test.YtijjkfbkihgfgaaGreatAloqsu
import Derived.Test.YtijjkfbkihgfgaaGreatDssqsu
import Derived.Test.YtijjkfbkihgfgaaGreatRpsqsu
namespace Go.Proofs.YtijjkfbkihgfgaaGreat
open Go.Lg Go.Proofs Go.RowKit
attribute [local irreducible] Code.wp wpList bodyPost Exit.then Exit.inBlock Hp Again Calls Y AT ResV QT Qn QI wpAny wpAnyQ
set_option maxRecDepth 20000
set_option maxHeartbeats 4000000

def soN (l : List Rp) : Nat → Rp
  | 0 => l.getD 0 rp0
  | i + 1 => dsR (soN l i) (l.getD (i + 1) rp0)
def SoP (l : List Rp) : Prop := (1 ≤ l.length ∧ l.length ≤ 8) ∧ RepP (l.getD 0 rp0) ∧ ∀ i, i < l.length - 1 → DsP (soN l i) (l.getD (i + 1) rp0)
instance (l : List Rp) : Decidable (SoP l) := by unfold SoP; infer_instance
def soR (l : List Rp) : Rp := if SoP l then soN l (l.length - 1) else repZ
theorem subA_one {a : Option Addr} {n cap : Nat} (hs : SA a (n + 1)) (hn : 0 < n) (hc : n + 1 ≤ cap) : subA a 6 1 cap = some ⟨ab a, ao a + 6, none⟩ := by
  unfold subA
  rw [if_neg om, hs.get om]
  simp [Addr.add_lit, ab, ao]
theorem impl_SumOf_ok {w : World} {l : List Rp} {e : Nat} {ul : Value} (hl : Rd w (rpsT e l) ul) :
    Does Tryz.prog 74 [ul] w (GivesRB (soR l) (decide (SoP l))) := by
  obtain ⟨al, cl, rfl, hsl, hcl, hdl, hgl⟩ := rd_rps hl
  unfold maxLen at hdl
  by_cases hL : 1 ≤ l.length ∧ l.length ≤ 8
  · have hL' : (1 : Int) ≤ ((l.length : Nat) : Int) ∧ ((l.length : Nat) : Int) ≤ 8 := by omega
    have hL'' := not_not_intro hL'
    obtain ⟨r, hr⟩ : ∃ r, l[0]? = some r := ⟨_, List.getElem?_eq_getElem om⟩
    obtain ⟨a0, c0, a1, c1, a2, c2, a3, c3, g0, g1, g2, g3, g4, g5, r0, r1, r2, r3⟩ := hgl 0 r hr
    rw [Nat.zero_mul, Nat.add_zero] at g0 g1 g2 g3 g4 g5
    have hd : l.getD 0 rp0 = r := by rw [List.getD, hr]; rfl
    by_cases hR : RepP r
    · have hR' := not_not_intro hR
      obtain ⟨n, hn⟩ : ∃ n, l.length = n + 1 := ⟨l.length - 1, by omega⟩
      have hsub : SA (subA al 6 1 cl) n := by
        rcases Nat.eq_zero_or_pos n with h0 | h0
        · exact .inl h0
        · rw [subA_one (hn ▸ hsl) h0 om]; exact .mk
      refine fn_enter Tryz.func74 rfl Tryz.ntmps74 rfl ?_
      repeat' (first | (show oL; first | refine sMv rfl rfl ?_ | refine sAs rfl rfl ?_ | (show oA (.load _ _); refine st_y (y_load6 tabs rfl rfl (hc_w0 g0) (hc_w0 g1) (hc_w0 g2) (hc_w0 g3) (hc_w0 g4) (hc_w0 g5)) rfl ?_) | (show oA (.indexAddr _ _ _); refine st_y (y_ixa tabs rfl rfl rfl hsl om om) rfl ?_) | (show oA (.unOp _ _ _); refine st_y (y_notd rfl) rfl ?_) | (show oA (.call _); first | (refine m_call (ent_of Tryz.func121 kr rfl) rfl rfl (fun w c' => within_ok _ 1 8) ?_; rintro v H' ⟨rfl, rfl⟩) | (refine m_call (ent_of Tryz.func166 kr rfl) rfl rfl (fun w c => impl_IsRep_ok (r := r) (c.rd r0) (c.rd r1) (c.rd r2) (c.rd r3)) ?_; rintro v H' ⟨rfl, rfl⟩) | (refine m_call (ent_of Tryz.func182 kr rfl) rfl rfl (fun w c => rclone_ok (r := r) (c.rd r0) (c.rd r1) (c.rd r2) (c.rd r3) hR) ?_; rintro v H' ⟨aF, cF, aT, cT, ad, cd, am, cm, rfl, hsF, hsT, hsd, hsm, rfl⟩) | refine sLn tabs rfl rfl rfl ?_) | (show oA (.pick _ _ _); refine st_y (y_pickf rfl aO rfl) rfl ?_) | (show oA (.store _ _ _); refine m_storeb 0 tabs rfl rfl rfl rfl rfl rfl rfl ?_) | (show oA (.alloc _); refine m_alloc tabs rfl rfl (fun b2 hb2 => ?_)) | (show oA (.slice _ _ _ _ _); refine st_y (y_slo (lo := 1) tabs rfl rfl rfl rfl om) rfl ?_) | refine st_gfy rfl rfl aO ?_) | refine xNt ?_ | (show oC; first | refine c_seq ?_ | refine c_region ?_ | refine c_skip (x_then ?_) | refine c_block ?_ | refine c_iff rfl nN ?_))
      all_goals first | exact absurd hL' aS | exact absurd hR aS | skip
      rename_i b4 hb4
      rw [hn, Nat.add_sub_cancel]
      refine c_loopH (α := Nat × (Option Addr × Nat) × (Option Addr × Nat) × (Option Addr × Nat) × (Option Addr × Nat)) [2, 4, 25, 26] (fun s => [(27, .int .i64 s.1)]) (fun s => (s.1 ≤ n ∧ ∀ i, i < s.1 → DsP (soN l i) (l.getD (i + 1) rp0)) ∧ SA s.2.1.1 (soN l s.1).q.2.1.length ∧ SA s.2.2.1.1 (soN l s.1).q.2.2.length ∧ SA s.2.2.2.1.1 (soN l s.1).d.length ∧ SA s.2.2.2.2.1 (soN l s.1).m.length) (fun s => [.own (matsT 47 (soN l s.1).m) (.slice s.2.2.2.2.1 (soN l s.1).m.length s.2.2.2.2.2), .own (iT (soN l s.1).d) (.slice s.2.2.2.1.1 (soN l s.1).d.length s.2.2.2.1.2), .own (iT (soN l s.1).q.2.2) (.slice s.2.2.1.1 (soN l s.1).q.2.2.length s.2.2.1.2), .own (iT (soN l s.1).q.2.1) (.slice s.2.1.1 (soN l s.1).q.2.1.length s.2.1.2), .blk b2 #[iV (soN l s.1).p, iV (soN l s.1).q.1, .slice s.2.1.1 (soN l s.1).q.2.1.length s.2.1.2, .slice s.2.2.1.1 (soN l s.1).q.2.2.length s.2.2.1.2, .slice s.2.2.2.1.1 (soN l s.1).d.length s.2.2.2.1.2, .slice s.2.2.2.2.1 (soN l s.1).m.length s.2.2.2.2.2] 60, .blk b4 #[iV 0, iV 0, .slice none 0 0, .slice none 0 0, .slice none 0 0, .slice none 0 0] 60]) (fun s => n - s.1) (0, (aF, cF), (aT, cT), (ad, cd), (am, cm)) rfl sB ?_ ?_ ?_
      · simp only [soN, hd]
        exact ⟨⟨Nat.zero_le _, fun i hi => absurd hi om⟩, hsF, hsT, hsd, hsm⟩
      · intro w' c'
        simp only [soN, hd]
        exact (((c'.front (i := 4) rfl).front (i := 4) rfl).front (i := 4) rfl).front (i := 4) rfl
      · rintro ⟨i, ⟨bF, eF⟩, ⟨bT, eT⟩, ⟨bd, ed⟩, ⟨bm, em⟩⟩ ⟨⟨hi, hall⟩, k1, k2, k3, k4⟩
        simp only at hi hall k1 k2 k3 k4 ⊢
        by_cases hin : i < n
        · obtain ⟨q, hq⟩ : ∃ q, l[i + 1]? = some q := ⟨_, List.getElem?_eq_getElem om⟩
          obtain ⟨x0, y0, x1, y1, x2, y2, x3, y3, f0, f1, f2, f3, f4, f5, t0, t1, t2, t3⟩ := hgl (i + 1) q hq
          have hqd : l.getD (i + 1) rp0 = q := by rw [List.getD, hq]; rfl
          have hsu := subA_one (hn ▸ hsl) om (show n + 1 ≤ cl by omega)
          have eo : ∀ k, (⟨ab al, ao al + (i + 1) * 6 + k, none⟩ : Addr) = ⟨ab (subA al 6 1 cl), ao (subA al 6 1 cl) + i * 6 + k, none⟩ := fun k => by
            rw [hsu]
            show (⟨ab al, _, none⟩ : Addr) = ⟨ab al, ao al + 6 + i * 6 + k, none⟩
            congr 1; omega
          have eo0 : (⟨ab al, ao al + (i + 1) * 6, none⟩ : Addr) = ⟨ab (subA al 6 1 cl), ao (subA al 6 1 cl) + i * 6, none⟩ := eo 0
          rw [eo0] at f0
          rw [eo 1] at f1
          rw [eo 2] at f2
          rw [eo 3] at f3
          rw [eo 4] at f4
          rw [eo 5] at f5
          by_cases hD : DsP (soN l i) q
          · repeat' (first | (show oL; first | refine sMv rfl rfl ?_ | refine sAs rfl rfl ?_ | (show oA (.load _ _); first | refine st_y (y_load6 tabs rfl rfl (hc_w0 f0) (hc_w0 f1) (hc_w0 f2) (hc_w0 f3) (hc_w0 f4) (hc_w0 f5)) rfl ?_ | refine sLb 5 tabs rfl rfl rfl rfl rfl ?_ | refine sLb 0 tabs rfl rfl rfl rfl rfl ?_) | (show oA (.indexAddr _ _ _); refine st_y (y_ixa tabs rfl rfl rfl hsub om om) rfl ?_) | (show oA (.binOp _ _ _ _ _); first | refine sAd rfl rfl om rfl ?_ | refine sLs rfl rfl rfl ?_) | (show oA (.unOp _ _ _); refine st_y (y_not rfl) rfl ?_) | (show oA (.call _); (refine m_call (ent_of Tryz.func65 kr rfl) rfl rfl (fun w c => by have h := impl_DirectSum_ok (a := soN l i) (b := q) (c.own_rd (i := 4) rfl) (c.own_rd (i := 3) rfl) (c.own_rd (i := 2) rfl) (c.own_rd (i := 1) rfl) (c.rd t0) (c.rd t1) (c.rd t2) (c.rd t3); rw [dsL, if_pos hD, decide_eq_true hD] at h; exact h) ?_; rintro v H' ⟨aF', cF', aT', cT', ad', cd', am', cm', rfl, hsF', hsT', hsd', hsm', rfl⟩)) | (show oA (.extract _ _); refine st_y (y_ext rfl rfl) rfl ?_) | (show oA (.store _ _ _); first | refine m_storeb 9 tabs rfl rfl rfl rfl rfl rfl rfl ?_ | refine m_storeb 0 tabs rfl rfl rfl rfl rfl rfl rfl ?_) | (show oA (.alloc _); refine m_alloc tabs rfl rfl (fun b7 hb7 => ?_))) | refine xNt ?_ | (show oC; first | refine c_seq ?_ | refine c_region ?_ | refine c_skip (x_then ?_) | refine c_skip (x_blk ?_) | refine c_block ?_ | refine c_false rfl ?_ | refine c_ift rfl aO ?_) | (show AT _ _ _ _; refine x_then ?_))
            refine x_nx (i + 1, (aF', cF'), (aT', cT'), (ad', cd'), (am', cm')) sB ⟨⟨by simp only; omega, fun j hj => ?_⟩, by simpa only [soN, hqd] using hsF', by simpa only [soN, hqd] using hsT', by simpa only [soN, hqd] using hsd', by simpa only [soN, hqd] using hsm'⟩ (fun w' c' => ?_) (by simp only; omega)
            · simp only at hj
              by_cases e : j = i
              · subst e; rw [hqd]; exact hD
              · exact hall j om
            · simp only [soN, hqd]
              exact c'.sub sL
          · have hno : ¬ SoP l := fun h => hD (by have := h.2.2 i om; rwa [hqd] at this)
            rw [soR, if_neg hno, decide_eq_false hno]
            repeat' (first | (show oL; first | refine sMv rfl rfl ?_ | refine sAs rfl rfl ?_ | (show oA (.load _ _); first | refine st_y (y_load6 tabs rfl rfl (hc_w0 f0) (hc_w0 f1) (hc_w0 f2) (hc_w0 f3) (hc_w0 f4) (hc_w0 f5)) rfl ?_ | refine sLb 5 tabs rfl rfl rfl rfl rfl ?_ | refine sLb 0 tabs rfl rfl rfl rfl rfl ?_) | (show oA (.indexAddr _ _ _); refine st_y (y_ixa tabs rfl rfl rfl hsub om om) rfl ?_) | refine sLs rfl rfl rfl ?_ | (show oA (.unOp _ _ _); refine st_y (y_not rfl) rfl ?_) | (show oA (.call _); (refine m_call (ent_of Tryz.func65 kr rfl) rfl rfl (fun w c => by have h := impl_DirectSum_ok (a := soN l i) (b := q) (c.own_rd (i := 4) rfl) (c.own_rd (i := 3) rfl) (c.own_rd (i := 2) rfl) (c.own_rd (i := 1) rfl) (c.rd t0) (c.rd t1) (c.rd t2) (c.rd t3); rw [dsL, if_neg hD, decide_eq_false hD] at h; exact h) ?_; rintro v H' ⟨aF', cF', aT', cT', ad', cd', am', cm', rfl, hsF', hsT', hsd', hsm', rfl⟩)) | (show oA (.extract _ _); refine st_y (y_ext rfl rfl) rfl ?_) | (show oA (.store _ _ _); first | refine m_storeb 9 tabs rfl rfl rfl rfl rfl rfl rfl ?_ | refine m_storeb 10 tabs rfl rfl rfl rfl rfl rfl rfl ?_ | refine m_storeb 0 tabs rfl rfl rfl rfl rfl rfl rfl ?_) | (show oA (.alloc _); refine m_alloc tabs rfl rfl (fun b7 hb7 => ?_)) | (show oA (.build _ _); refine st_y (y_bld0 bld_rp0) rfl ?_)) | refine xNt ?_ | (show oC; first | refine c_seq ?_ | refine c_region ?_ | refine c_skip (x_then ?_) | refine c_block ?_ | refine c_ret ?_ | refine c_true rfl ?_ | refine c_ift rfl aO ?_) | (show AT _ _ _ _; first | refine x_then_ret ?_ | refine x_blk_ret ?_))
            refine x_ret2 Tryz.results74 (res_cellb 10 tabs rfl rfl rfl rfl) (res_tmp rfl) (fun w' c' => ⟨_, _, rfl, ⟨none, 0, none, 0, none, 0, none, 0, rfl, .inl rfl, .inl rfl, .inl rfl, .inl rfl, rfl⟩, ?_⟩)
            exact Hp.nilp _ _ (Hp.nilp _ _ (Hp.nilp _ _ (Hp.nilp _ _ (c'.sub (List.nil_sublist _)))))
        · have : i = n := by omega
          subst this
          have hyes : SoP l := ⟨hL, by rw [hd]; exact hR, fun j hj => hall j om⟩
          have el : l.length - 1 = i := by omega
          rw [soR, if_pos hyes, decide_eq_true hyes, el]
          repeat' (first | (show oL; first | refine sAs rfl rfl ?_ | refine sLb 4 tabs rfl rfl rfl rfl rfl ?_ | refine sLs rfl rfl rfl ?_ | (show oA (.store _ _ _); refine m_storeb 5 tabs rfl rfl rfl rfl rfl rfl rfl ?_)) | refine xNt ?_ | (show oC; first | refine c_seq ?_ | refine c_region ?_ | refine c_ret ?_ | refine c_exit ?_ | refine c_iff rfl nN ?_) | (show AT _ _ _ _; first | refine x_then ?_ | refine x_then_exit ?_ | refine x_blk_exit rfl ?_))
          exact x_ret2 Tryz.results74 (res_cellb 5 tabs rfl rfl rfl rfl) (res_tmp rfl) (fun w' c' => ⟨_, _, rfl, ⟨bF, eF, bT, eT, bd, ed, bm, em, rfl, k1, k2, k3, k4, rfl⟩, c'.sub sL⟩)
    · have hno : ¬ SoP l := fun h => hR (by have := h.2.1; rwa [hd] at this)
      rw [soR, if_neg hno, decide_eq_false hno]
      refine fn_enter Tryz.func74 rfl Tryz.ntmps74 rfl ?_
      repeat' (first | (show oL; first | refine sMv rfl rfl ?_ | refine sAs rfl rfl ?_ | (show oA (.load _ _); refine st_y (y_load6 tabs rfl rfl (hc_w0 g0) (hc_w0 g1) (hc_w0 g2) (hc_w0 g3) (hc_w0 g4) (hc_w0 g5)) rfl ?_) | (show oA (.indexAddr _ _ _); refine st_y (y_ixa tabs rfl rfl rfl hsl om om) rfl ?_) | (show oA (.unOp _ _ _); refine st_y (y_notd rfl) rfl ?_) | (show oA (.call _); first | (refine m_call (ent_of Tryz.func121 kr rfl) rfl rfl (fun w c' => within_ok _ 1 8) ?_; rintro v H' ⟨rfl, rfl⟩) | (refine m_call (ent_of Tryz.func166 kr rfl) rfl rfl (fun w c => impl_IsRep_ok (r := r) (c.rd r0) (c.rd r1) (c.rd r2) (c.rd r3)) ?_; rintro v H' ⟨rfl, rfl⟩) | refine sLn tabs rfl rfl rfl ?_) | (show oA (.pick _ _ _); refine st_y (y_pickf rfl aO rfl) rfl ?_) | (show oA (.store _ _ _); refine m_storeb 0 tabs rfl rfl rfl rfl rfl rfl rfl ?_) | (show oA (.alloc _); refine m_alloc tabs rfl rfl (fun b2 hb2 => ?_)) | (show oA (.build _ _); refine st_y (y_bld0 bld_rp0) rfl ?_) | refine st_gfy rfl rfl aO ?_) | refine xNt ?_ | (show oC; first | refine c_seq ?_ | refine c_region ?_ | refine c_ret ?_ | refine c_ift rfl aO ?_) | (show AT _ _ _ _; refine x_then_ret ?_))
      all_goals first | exact absurd hL' aS | exact absurd aS hR | skip
      refine x_ret2 Tryz.results74 (res_cellb 0 tabs rfl rfl rfl rfl) (res_tmp rfl) (fun w' c' => ⟨_, _, rfl, ⟨none, 0, none, 0, none, 0, none, 0, rfl, .inl rfl, .inl rfl, .inl rfl, .inl rfl, rfl⟩, ?_⟩)
      exact Hp.nilp _ _ (Hp.nilp _ _ (Hp.nilp _ _ (Hp.nilp _ _ (c'.sub (List.nil_sublist _)))))
  · have hno : ¬ SoP l := fun h => hL h.1
    have hL' : ¬ ((1 : Int) ≤ ((l.length : Nat) : Int) ∧ ((l.length : Nat) : Int) ≤ 8) := by omega
    rw [soR, if_neg hno, decide_eq_false hno]
    refine fn_enter Tryz.func74 rfl Tryz.ntmps74 rfl ?_
    repeat' (first | (show oL; first | refine sMv rfl rfl ?_ | refine sAs rfl rfl ?_ | (show oA (.unOp _ _ _); refine st_y (y_notd rfl) rfl ?_) | (show oA (.call _); first | (refine m_call (ent_of Tryz.func121 kr rfl) rfl rfl (fun w c' => within_ok _ 1 8) ?_; rintro v H' ⟨rfl, rfl⟩) | refine sLn tabs rfl rfl rfl ?_) | (show oA (.pick _ _ _); refine st_y (y_pickt rfl aO rfl) rfl ?_) | (show oA (.store _ _ _); refine m_storeb 0 tabs rfl rfl rfl rfl rfl rfl rfl ?_) | (show oA (.alloc _); refine m_alloc tabs rfl rfl (fun b2 hb2 => ?_)) | (show oA (.build _ _); refine st_y (y_bld0 bld_rp0) rfl ?_) | refine st_gfn rfl rfl aO rfl ?_) | refine xNt ?_ | (show oC; first | refine c_seq ?_ | refine c_region ?_ | refine c_ret ?_ | refine c_true rfl ?_) | (show AT _ _ _ _; refine x_then_ret ?_))
    all_goals first | exact absurd aS hL' | skip
    refine x_ret2 Tryz.results74 (res_cellb 0 tabs rfl rfl rfl rfl) (res_tmp rfl) (fun w' c' => ⟨_, _, rfl, ⟨none, 0, none, 0, none, 0, none, 0, rfl, .inl rfl, .inl rfl, .inl rfl, .inl rfl, rfl⟩, ?_⟩)
    exact Hp.nilp _ _ (Hp.nilp _ _ (Hp.nilp _ _ (Hp.nilp _ _ (c'.sub (List.nil_sublist _)))))
end Go.Proofs.YtijjkfbkihgfgaaGreat

namespace Go.Proofs.YtijjkfbkihgfgaaGreat
open Go.Lg Go.Proofs Go.RowKit
attribute [local irreducible] Code.wp wpList bodyPost Exit.then Exit.inBlock Hp Again Calls Y AT ResV QT Qn QI wpAny wpAnyQ
set_option maxRecDepth 20000
set_option maxHeartbeats 4000000

theorem spec_SumOf_ok {w : World} {l : List Rp} {e : Nat} {ul : Value} (hl : Rd w (rpsT e l) ul) :
    Does Tryz.prog 75 [ul] w (GivesRB (soR l) (decide (SoP l))) := by
  obtain ⟨al, cl, rfl, hsl, hcl, hdl, hgl⟩ := rd_rps hl
  unfold maxLen at hdl
  by_cases hL : 1 ≤ l.length ∧ l.length ≤ 8
  · have hL' : (1 : Int) ≤ ((l.length : Nat) : Int) ∧ ((l.length : Nat) : Int) ≤ 8 := by omega
    have hL'' := not_not_intro hL'
    obtain ⟨r, hr⟩ : ∃ r, l[0]? = some r := ⟨_, List.getElem?_eq_getElem om⟩
    obtain ⟨a0, c0, a1, c1, a2, c2, a3, c3, g0, g1, g2, g3, g4, g5, r0, r1, r2, r3⟩ := hgl 0 r hr
    rw [Nat.zero_mul, Nat.add_zero] at g0 g1 g2 g3 g4 g5
    have hd : l.getD 0 rp0 = r := by rw [List.getD, hr]; rfl
    by_cases hR : RepP r
    · have hR' := not_not_intro hR
      obtain ⟨n, hn⟩ : ∃ n, l.length = n + 1 := ⟨l.length - 1, by omega⟩
      refine fn_enter Tryz.func75 rfl Tryz.ntmps75 rfl ?_
      repeat' (first | (show oL; first | refine sMv rfl rfl ?_ | refine sAs rfl rfl ?_ | (show oA (.load _ _); refine st_y (y_load6 tabs rfl rfl (hc_w0 g0) (hc_w0 g1) (hc_w0 g2) (hc_w0 g3) (hc_w0 g4) (hc_w0 g5)) rfl ?_) | (show oA (.indexAddr _ _ _); refine st_y (y_ixa tabs rfl rfl rfl hsl om om) rfl ?_) | (show oA (.unOp _ _ _); refine st_y (y_notd rfl) rfl ?_) | (show oA (.call _); first | (refine m_call (ent_of Tryz.func145 kr rfl) rfl rfl (fun w c' => l1In_ok _ 1 8) ?_; rintro v H' ⟨rfl, rfl⟩) | (refine m_call (ent_of Tryz.func148 kr rfl) rfl rfl (fun w c => spec_IsRep_ok (r := r) (c.rd r0) (c.rd r1) (c.rd r2) (c.rd r3)) ?_; rintro v H' ⟨rfl, rfl⟩) | (refine m_call (ent_of Tryz.func185 kr rfl) rfl rfl (fun w c => l8Copy_ok (r := r) (c.rd r0) (c.rd r1) (c.rd r2) (c.rd r3) hR) ?_; rintro v H' ⟨aF, cF, aT, cT, ad, cd, am, cm, rfl, hsF, hsT, hsd, hsm, rfl⟩) | refine sLn tabs rfl rfl rfl ?_) | (show oA (.pick _ _ _); refine st_y (y_pickf rfl aO rfl) rfl ?_) | (show oA (.store _ _ _); refine m_storeb 0 tabs rfl rfl rfl rfl rfl rfl rfl ?_) | (show oA (.alloc _); refine m_alloc tabs rfl rfl (fun b2 hb2 => ?_)) | refine st_gfy rfl rfl aO ?_) | refine xNt ?_ | (show oC; first | refine c_seq ?_ | refine c_region ?_ | refine c_skip (x_then ?_) | refine c_block ?_ | refine c_iff rfl nN ?_))
      all_goals first | exact absurd hL' aS | exact absurd hR aS | skip
      rename_i b4 hb4
      refine c_loopH (α := Nat × (Option Addr × Nat) × (Option Addr × Nat) × (Option Addr × Nat) × (Option Addr × Nat)) [0, 2, 4] (fun s => [(5, .int .i64 (s.1 + 1 : Nat))]) (fun s => (s.1 ≤ n ∧ ∀ i, i < s.1 → DsP (soN l i) (l.getD (i + 1) rp0)) ∧ SA s.2.1.1 (soN l s.1).q.2.1.length ∧ SA s.2.2.1.1 (soN l s.1).q.2.2.length ∧ SA s.2.2.2.1.1 (soN l s.1).d.length ∧ SA s.2.2.2.2.1 (soN l s.1).m.length) (fun s => [.own (matsT 47 (soN l s.1).m) (.slice s.2.2.2.2.1 (soN l s.1).m.length s.2.2.2.2.2), .own (iT (soN l s.1).d) (.slice s.2.2.2.1.1 (soN l s.1).d.length s.2.2.2.1.2), .own (iT (soN l s.1).q.2.2) (.slice s.2.2.1.1 (soN l s.1).q.2.2.length s.2.2.1.2), .own (iT (soN l s.1).q.2.1) (.slice s.2.1.1 (soN l s.1).q.2.1.length s.2.1.2), .blk b2 #[iV (soN l s.1).p, iV (soN l s.1).q.1, .slice s.2.1.1 (soN l s.1).q.2.1.length s.2.1.2, .slice s.2.2.1.1 (soN l s.1).q.2.2.length s.2.2.1.2, .slice s.2.2.2.1.1 (soN l s.1).d.length s.2.2.2.1.2, .slice s.2.2.2.2.1 (soN l s.1).m.length s.2.2.2.2.2] 60, .blk b4 #[iV 0, iV 0, .slice none 0 0, .slice none 0 0, .slice none 0 0, .slice none 0 0] 60]) (fun s => n - s.1) (0, (aF, cF), (aT, cT), (ad, cd), (am, cm)) rfl sB ?_ ?_ ?_
      · simp only [soN, hd]
        exact ⟨⟨Nat.zero_le _, fun i hi => absurd hi om⟩, hsF, hsT, hsd, hsm⟩
      · intro w' c'
        simp only [soN, hd]
        exact (((c'.front (i := 4) rfl).front (i := 4) rfl).front (i := 4) rfl).front (i := 4) rfl
      · rintro ⟨i, ⟨bF, eF⟩, ⟨bT, eT⟩, ⟨bd, ed⟩, ⟨bm, em⟩⟩ ⟨⟨hi, hall⟩, k1, k2, k3, k4⟩
        simp only at hi hall k1 k2 k3 k4 ⊢
        by_cases hin : i < n
        · obtain ⟨q, hq⟩ : ∃ q, l[i + 1]? = some q := ⟨_, List.getElem?_eq_getElem om⟩
          obtain ⟨x0, y0, x1, y1, x2, y2, x3, y3, f0, f1, f2, f3, f4, f5, t0, t1, t2, t3⟩ := hgl (i + 1) q hq
          have hqd : l.getD (i + 1) rp0 = q := by rw [List.getD, hq]; rfl
          by_cases hD : DsP (soN l i) q
          · repeat' (first | (show oL; first | refine sMv rfl rfl ?_ | refine sLs rfl rfl rfl ?_ | refine sLn tabs rfl rfl rfl ?_) | refine xNt ?_ | (show oC; first | refine c_seq ?_ | refine c_region ?_ | refine c_skip (x_then ?_) | refine c_block ?_ | refine c_ift rfl aO ?_))
            refine c_all (Hp [] w [.blk b2 #[iV (soN l i).p, iV (soN l i).q.1, .slice bF (soN l i).q.2.1.length eF, .slice bT (soN l i).q.2.2.length eT, .slice bd (soN l i).d.length ed, .slice bm (soN l i).m.length em] 60]) kr (fun _ c => Hp.drew c) ?_
            refine fl_begin 9 rfl tabs rfl rfl ?_
            refine fl_take 0 rfl kr kr kr kr kr kr (by first | exact y_loadb 0 tabs rfl rfl rfl rfl | exact y_loadb 0 tabs rfl rfl rfl rfl) rfl sS ?_
            refine fl_take 1 rfl kr kr kr kr kr kr (by exact y_move rfl) rfl sS ?_
            refine fl_take 2 rfl kr kr kr kr kr kr (by exact y_move rfl) rfl sS ?_
            refine fl_take 3 rfl kr kr kr kr kr kr (by exact y_ixa tabs rfl rfl rfl hsl om om) rfl sS ?_
            refine fl_take 4 rfl kr kr kr kr kr kr (by exact y_load6 tabs rfl rfl (hc_w0 f0) (hc_w0 f1) (hc_w0 f2) (hc_w0 f3) (hc_w0 f4) (hc_w0 f5)) rfl sS ?_
            (refine fl_call 5 rfl rfl kr tabs rfl rfl rfl kr kr kr (ent_of Tryz.func66 kr rfl) rfl rfl (fun w c => by have h := spec_DirectSum_ok (a := soN l i) (b := q) (c.own_rd (i := 3) rfl) (c.own_rd (i := 2) rfl) (c.own_rd (i := 1) rfl) (c.own_rd (i := 0) rfl) (c.rd t0) (c.rd t1) (c.rd t2) (c.rd t3); rw [dsL, if_pos hD, decide_eq_true hD] at h; exact h) sC ?_; rintro v H' ⟨aF', cF', aT', cT', ad', cd', am', cm', rfl, hsF', hsT', hsd', hsm', rfl⟩)
            refine fl_take 6 rfl kr kr kr kr kr kr (by exact y_move rfl) rfl sS ?_
            refine fl_take 7 rfl kr kr kr kr kr kr (by exact y_ext rfl rfl) rfl sS ?_
            refine fl_take 8 rfl kr kr kr kr kr kr (by exact y_ext rfl rfl) rfl sS ?_
            refine fl_end rfl tabs rfl rfl rfl kr sS (fun bf hbf => ?_)
            refine h_only 10 rfl kr ?_
            (refine m_storeb 0 tabs rfl rfl rfl rfl rfl rfl rfl ?_)
            refine c_nil (x_one (h_keep sS ?_))
            refine h_take 11 rfl kr kr kr (by exact y_assign rfl) rfl sS ?_
            refine h_end kr ?_
            repeat' (first | (show oL; first | refine sMv rfl rfl ?_ | refine sAs rfl rfl ?_ | refine sLb 0 tabs rfl rfl rfl rfl rfl ?_ | refine sAd rfl rfl om rfl ?_ | (show oA (.unOp _ _ _); refine st_y (y_not rfl) rfl ?_) | (show oA (.store _ _ _); refine m_storeb 9 tabs rfl rfl rfl rfl rfl rfl rfl ?_)) | (show oN; first | refine c_nil (x_then ?_) | refine c_nil ?_) | (show oC; first | refine c_seq ?_ | refine c_region ?_ | refine c_skip (x_then ?_) | refine c_false rfl ?_) | (show AT _ _ _ _; first | refine x_then ?_ | refine x_blk ?_))
            refine x_nx (i + 1, (aF', cF'), (aT', cT'), (ad', cd'), (am', cm')) sB ⟨⟨by simp only; omega, fun j hj => ?_⟩, by simpa only [soN, hqd] using hsF', by simpa only [soN, hqd] using hsT', by simpa only [soN, hqd] using hsd', by simpa only [soN, hqd] using hsm'⟩ (fun w' c' => ?_) (by simp only; omega)
            · simp only at hj
              by_cases e : j = i
              · subst e; rw [hqd]; exact hD
              · exact hall j om
            · simp only [soN, hqd]
              exact c'.sub sL
          · have hno : ¬ SoP l := fun h => hD (by have := h.2.2 i om; rwa [hqd] at this)
            rw [soR, if_neg hno, decide_eq_false hno]
            repeat' (first | (show oL; first | refine sMv rfl rfl ?_ | refine sLs rfl rfl rfl ?_ | refine sLn tabs rfl rfl rfl ?_) | refine xNt ?_ | (show oC; first | refine c_seq ?_ | refine c_region ?_ | refine c_skip (x_then ?_) | refine c_block ?_ | refine c_ift rfl aO ?_))
            refine c_all (Hp [] w [.blk b2 #[iV (soN l i).p, iV (soN l i).q.1, .slice bF (soN l i).q.2.1.length eF, .slice bT (soN l i).q.2.2.length eT, .slice bd (soN l i).d.length ed, .slice bm (soN l i).m.length em] 60]) kr (fun _ c => Hp.drew c) ?_
            refine fl_begin 9 rfl tabs rfl rfl ?_
            refine fl_take 0 rfl kr kr kr kr kr kr (by first | exact y_loadb 0 tabs rfl rfl rfl rfl | exact y_loadb 0 tabs rfl rfl rfl rfl) rfl sS ?_
            refine fl_take 1 rfl kr kr kr kr kr kr (by exact y_move rfl) rfl sS ?_
            refine fl_take 2 rfl kr kr kr kr kr kr (by exact y_move rfl) rfl sS ?_
            refine fl_take 3 rfl kr kr kr kr kr kr (by exact y_ixa tabs rfl rfl rfl hsl om om) rfl sS ?_
            refine fl_take 4 rfl kr kr kr kr kr kr (by exact y_load6 tabs rfl rfl (hc_w0 f0) (hc_w0 f1) (hc_w0 f2) (hc_w0 f3) (hc_w0 f4) (hc_w0 f5)) rfl sS ?_
            (refine fl_call 5 rfl rfl kr tabs rfl rfl rfl kr kr kr (ent_of Tryz.func66 kr rfl) rfl rfl (fun w c => by have h := spec_DirectSum_ok (a := soN l i) (b := q) (c.own_rd (i := 3) rfl) (c.own_rd (i := 2) rfl) (c.own_rd (i := 1) rfl) (c.own_rd (i := 0) rfl) (c.rd t0) (c.rd t1) (c.rd t2) (c.rd t3); rw [dsL, if_neg hD, decide_eq_false hD] at h; exact h) sC ?_; rintro v H' ⟨aF', cF', aT', cT', ad', cd', am', cm', rfl, hsF', hsT', hsd', hsm', rfl⟩)
            refine fl_take 6 rfl kr kr kr kr kr kr (by exact y_move rfl) rfl sS ?_
            refine fl_take 7 rfl kr kr kr kr kr kr (by exact y_ext rfl rfl) rfl sS ?_
            refine fl_take 8 rfl kr kr kr kr kr kr (by exact y_ext rfl rfl) rfl sS ?_
            refine fl_end rfl tabs rfl rfl rfl kr sS (fun bf hbf => ?_)
            refine h_only 10 rfl kr ?_
            (refine m_storeb 0 tabs rfl rfl rfl rfl rfl rfl rfl ?_)
            refine c_nil (x_one (h_keep sS ?_))
            refine h_take 11 rfl kr kr kr (by exact y_assign rfl) rfl sS ?_
            refine h_end kr ?_
            repeat' (first | (show oL; first | refine sMv rfl rfl ?_ | refine sAs rfl rfl ?_ | (show oA (.unOp _ _ _); refine st_y (y_not rfl) rfl ?_) | (show oA (.store _ _ _); refine m_storeb 10 tabs rfl rfl rfl rfl rfl rfl rfl ?_) | (show oA (.build _ _); refine st_y (y_bld0 bld_rp0) rfl ?_)) | refine xNt ?_ | (show oC; first | refine c_seq ?_ | refine c_region ?_ | refine c_ret ?_ | refine c_true rfl ?_) | (show AT _ _ _ _; first | refine x_then ?_ | refine x_then_ret ?_ | refine x_blk_ret ?_))
            refine x_ret2 Tryz.results75 (res_cellb 10 tabs rfl rfl rfl rfl) (res_tmp rfl) (fun w' c' => ⟨_, _, rfl, ⟨none, 0, none, 0, none, 0, none, 0, rfl, .inl rfl, .inl rfl, .inl rfl, .inl rfl, rfl⟩, ?_⟩)
            exact Hp.nilp _ _ (Hp.nilp _ _ (Hp.nilp _ _ (Hp.nilp _ _ (c'.sub (List.nil_sublist _)))))
        · have : i = n := by omega
          subst this
          have hyes : SoP l := ⟨hL, by rw [hd]; exact hR, fun j hj => hall j om⟩
          have el : l.length - 1 = i := by omega
          rw [soR, if_pos hyes, decide_eq_true hyes, el]
          repeat' (first | (show oL; first | refine sMv rfl rfl ?_ | refine sAs rfl rfl ?_ | refine sLb 4 tabs rfl rfl rfl rfl rfl ?_ | refine sLs rfl rfl rfl ?_ | refine sLn tabs rfl rfl rfl ?_ | (show oA (.store _ _ _); refine m_storeb 5 tabs rfl rfl rfl rfl rfl rfl rfl ?_)) | refine xNt ?_ | (show oC; first | refine c_seq ?_ | refine c_region ?_ | refine c_ret ?_ | refine c_exit ?_ | refine c_iff rfl nN ?_) | (show AT _ _ _ _; first | refine x_then ?_ | refine x_then_exit ?_ | refine x_blk_exit rfl ?_))
          exact x_ret2 Tryz.results75 (res_cellb 5 tabs rfl rfl rfl rfl) (res_tmp rfl) (fun w' c' => ⟨_, _, rfl, ⟨bF, eF, bT, eT, bd, ed, bm, em, rfl, k1, k2, k3, k4, rfl⟩, c'.sub sL⟩)
    · have hno : ¬ SoP l := fun h => hR (by have := h.2.1; rwa [hd] at this)
      rw [soR, if_neg hno, decide_eq_false hno]
      refine fn_enter Tryz.func75 rfl Tryz.ntmps75 rfl ?_
      repeat' (first | (show oL; first | refine sMv rfl rfl ?_ | refine sAs rfl rfl ?_ | (show oA (.load _ _); refine st_y (y_load6 tabs rfl rfl (hc_w0 g0) (hc_w0 g1) (hc_w0 g2) (hc_w0 g3) (hc_w0 g4) (hc_w0 g5)) rfl ?_) | (show oA (.indexAddr _ _ _); refine st_y (y_ixa tabs rfl rfl rfl hsl om om) rfl ?_) | (show oA (.unOp _ _ _); refine st_y (y_notd rfl) rfl ?_) | (show oA (.call _); first | (refine m_call (ent_of Tryz.func145 kr rfl) rfl rfl (fun w c' => l1In_ok _ 1 8) ?_; rintro v H' ⟨rfl, rfl⟩) | (refine m_call (ent_of Tryz.func148 kr rfl) rfl rfl (fun w c => spec_IsRep_ok (r := r) (c.rd r0) (c.rd r1) (c.rd r2) (c.rd r3)) ?_; rintro v H' ⟨rfl, rfl⟩) | refine sLn tabs rfl rfl rfl ?_) | (show oA (.pick _ _ _); refine st_y (y_pickf rfl aO rfl) rfl ?_) | (show oA (.store _ _ _); refine m_storeb 0 tabs rfl rfl rfl rfl rfl rfl rfl ?_) | (show oA (.alloc _); refine m_alloc tabs rfl rfl (fun b2 hb2 => ?_)) | (show oA (.build _ _); refine st_y (y_bld0 bld_rp0) rfl ?_) | refine st_gfy rfl rfl aO ?_) | refine xNt ?_ | (show oC; first | refine c_seq ?_ | refine c_region ?_ | refine c_ret ?_ | refine c_ift rfl aO ?_) | (show AT _ _ _ _; refine x_then_ret ?_))
      all_goals first | exact absurd hL' aS | exact absurd aS hR | skip
      refine x_ret2 Tryz.results75 (res_cellb 0 tabs rfl rfl rfl rfl) (res_tmp rfl) (fun w' c' => ⟨_, _, rfl, ⟨none, 0, none, 0, none, 0, none, 0, rfl, .inl rfl, .inl rfl, .inl rfl, .inl rfl, rfl⟩, ?_⟩)
      exact Hp.nilp _ _ (Hp.nilp _ _ (Hp.nilp _ _ (Hp.nilp _ _ (c'.sub (List.nil_sublist _)))))
  · have hno : ¬ SoP l := fun h => hL h.1
    have hL' : ¬ ((1 : Int) ≤ ((l.length : Nat) : Int) ∧ ((l.length : Nat) : Int) ≤ 8) := by omega
    rw [soR, if_neg hno, decide_eq_false hno]
    refine fn_enter Tryz.func75 rfl Tryz.ntmps75 rfl ?_
    repeat' (first | (show oL; first | refine sMv rfl rfl ?_ | refine sAs rfl rfl ?_ | (show oA (.unOp _ _ _); refine st_y (y_notd rfl) rfl ?_) | (show oA (.call _); first | (refine m_call (ent_of Tryz.func145 kr rfl) rfl rfl (fun w c' => l1In_ok _ 1 8) ?_; rintro v H' ⟨rfl, rfl⟩) | refine sLn tabs rfl rfl rfl ?_) | (show oA (.pick _ _ _); refine st_y (y_pickt rfl aO rfl) rfl ?_) | (show oA (.store _ _ _); refine m_storeb 0 tabs rfl rfl rfl rfl rfl rfl rfl ?_) | (show oA (.alloc _); refine m_alloc tabs rfl rfl (fun b2 hb2 => ?_)) | (show oA (.build _ _); refine st_y (y_bld0 bld_rp0) rfl ?_) | refine st_gfn rfl rfl aO rfl ?_) | refine xNt ?_ | (show oC; first | refine c_seq ?_ | refine c_region ?_ | refine c_ret ?_ | refine c_true rfl ?_) | (show AT _ _ _ _; refine x_then_ret ?_))
    all_goals first | exact absurd aS hL' | skip
    refine x_ret2 Tryz.results75 (res_cellb 0 tabs rfl rfl rfl rfl) (res_tmp rfl) (fun w' c' => ⟨_, _, rfl, ⟨none, 0, none, 0, none, 0, none, 0, rfl, .inl rfl, .inl rfl, .inl rfl, .inl rfl, rfl⟩, ?_⟩)
    exact Hp.nilp _ _ (Hp.nilp _ _ (Hp.nilp _ _ (Hp.nilp _ _ (c'.sub (List.nil_sublist _)))))
end Go.Proofs.YtijjkfbkihgfgaaGreat
