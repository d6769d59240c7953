import Derived.Test.YtijjkfbkihgfgaaGreatCbnqho
import Derived.Test.YtijjkfbkihgfgaaGreatMphqho
import Derived.Test.YtijjkfbkihgfgaaGreatPrmqho
namespace Go.Proofs.YtijjkfbkihgfgaaGreat
open Go.Lg Go.Proofs Go.RowKit
attribute [local irreducible] Code.wp wpList bodyPost Exit.then Exit.inBlock Hp Again Calls Y AT ResV QT Qn QI wpAny wpAnyQ
set_option maxRecDepth 20000
set_option maxHeartbeats 4000000

theorem IndexFuncL_ok {w : World} {v : Value} {e e' : Nat} {rs : List (List Mat)} {g : Nat} {cap : Array Value} {p : List Mat → Prop} [DecidablePred p] (hr : Rd w (mssT e e' rs) v) (he : Ent Tryz.prog g)
    (hf : ∀ w' xs u, xs ∈ rs → Rd w' (matsT e' xs) u → Hp [] w [] w' → Does Tryz.prog g ([u] ++ cap.toList) w' (fun r H => r = .bool (decide (p xs)) ∧ H = [])) :
    Does Tryz.prog 274 [v, .func (.func g) #[] cap] w (fun r H => (∃ k, r = iV k ∧ (0 ≤ k ↔ ∃ x ∈ rs, p x)) ∧ H = []) := by
  obtain ⟨a, c, rfl, hs, hc1, hc2, hget⟩ := rd_mss hr
  unfold maxLen at hc2
  refine fn_enter Tryz.func274 rfl Tryz.ntmps274 rfl ?_
  repeat' (first | (show oL; first | refine sMv rfl rfl ?_ | refine sAs rfl rfl ?_ | refine sLn tabs rfl rfl rfl ?_) | refine xNt ?_ | (show oC; first | refine c_seq ?_ | refine c_region ?_ | refine c_block ?_))
  refine c_loopH (α := Nat) [0, 1, 7] (fun i => [(8, .int .i64 i)]) (fun i => i ≤ rs.length ∧ ∀ x ∈ rs.take i, ¬ p x) (fun i => []) (fun i => rs.length - i) 0 rfl sB ?_ ?_ ?_
  · exact ⟨Nat.zero_le _, by simp⟩
  · exact fun w' c' => c'
  · rintro i ⟨hi, hn⟩
    by_cases hin : i < rs.length
    · obtain ⟨xs, hx⟩ : ∃ xs, rs[i]? = some xs := ⟨_, List.getElem?_eq_getElem hin⟩
      obtain ⟨a2, c2, g1, g2⟩ := hget i xs hx
      have hmem := List.mem_of_getElem? hx
      repeat' (first | (show oL; first | refine sMv rfl rfl ?_ | refine sAs rfl rfl ?_ | (show oA (.load _ _); refine st_y (y_load tabs rfl rfl (hc_w0 g1)) rfl ?_) | (show oA (.indexAddr _ _ _); refine st_y (y_ix1 tabs (j := i) rfl rfl rfl hs rfl hin) rfl ?_) | (show oA (.binOp _ _ _ _ _); first | refine sAd rfl rfl om rfl ?_ | refine sLs rfl rfl rfl ?_) | (show oA (.call _); (refine m_callv rfl he rfl rfl (fun w c => hf w _ _ hmem (c.rd g2) c) ?_; rintro v H' ⟨rfl, rfl⟩))) | refine xNt ?_ | (show oC; first | refine c_seq ?_ | refine c_region ?_ | refine c_skip (x_then ?_) | refine c_skip (x_blk ?_) | refine c_block ?_ | refine c_ret ?_ | refine c_ift rfl aO ?_ | refine c_if rfl (fun h => ?_) (fun h => ?_)) | (show AT _ _ _ _; first | refine x_then ?_ | refine x_then_ret ?_ | refine x_blk_ret ?_))
      · exact x_ret1 Tryz.results274 (res_tmp rfl) (fun w' c' => ⟨_, _, rfl, ⟨⟨i, rfl, fun _ => ⟨xs, hmem, by assumption⟩, fun _ => by omega⟩, rfl⟩, c'⟩)
      · refine x_nx (i + 1) sB ⟨by omega, fun x hxm => ?_⟩ (fun w' c' => c') om
        rw [List.take_add_one, hx] at hxm
        rcases List.mem_append.1 hxm with hxm | hxm
        · exact hn x hxm
        · simp at hxm
          subst hxm
          assumption
    · repeat' (first | (show oL; first | refine sAs rfl rfl ?_ | refine sLs rfl rfl rfl ?_) | refine xNt ?_ | (show oC; first | refine c_seq ?_ | refine c_region ?_ | refine c_ret ?_ | refine c_exit ?_ | refine c_iff rfl nN ?_) | (show AT _ _ _ _; first | refine x_then ?_ | refine x_then_exit ?_ | refine x_blk_exit rfl ?_))
      refine x_ret1 Tryz.results274 (res_tmp rfl) (fun w' c' => ⟨_, _, rfl, ⟨⟨-1, rfl, fun h => by omega, ?_⟩, rfl⟩, c'⟩)
      rw [take_end om] at hn
      rintro ⟨x, hx, hp⟩
      exact absurd hp (hn x hx)
theorem ContainsFuncL_ok {w : World} {v : Value} {e e' : Nat} {rs : List (List Mat)} {g : Nat} {cap : Array Value} {p : List Mat → Prop} [DecidablePred p] (hr : Rd w (mssT e e' rs) v) (he : Ent Tryz.prog g)
    (hf : ∀ w' xs u, xs ∈ rs → Rd w' (matsT e' xs) u → Hp [] w [] w' → Does Tryz.prog g ([u] ++ cap.toList) w' (fun r H => r = .bool (decide (p xs)) ∧ H = [])) :
    Does Tryz.prog 213 [v, .func (.func g) #[] cap] w (fun r H => r = .bool (decide (∃ x ∈ rs, p x)) ∧ H = []) := by
  refine fn_enter Tryz.func213 rfl Tryz.ntmps213 rfl ?_
  repeat' (first | (show oL; first | refine sMv rfl rfl ?_ | refine sAs rfl rfl ?_ | (show oA (.binOp _ _ _ _ _); refine st_y (y_geq rfl rfl) rfl ?_) | (show oA (.call _); (refine m_call (ent_of Tryz.func274 kr rfl) rfl rfl (fun w c => IndexFuncL_ok (c.rd hr) he (fun w' x u hm hru c' => hf w' x u hm hru (c.trans c'))) ?_; rintro v H' ⟨⟨k, rfl, hk⟩, rfl⟩))) | refine xNt ?_ | (show oC; first | refine c_seq ?_ | refine c_region ?_ | refine c_ret ?_))
  refine x_ret1 Tryz.results213 (res_tmp rfl) (fun w' c' => ⟨_, _, rfl, ⟨?_, rfl⟩, c'⟩)
  simp [hk]
theorem CombineMorphisms1_ok {w : World} {a b : Rp} {ms : List Mat} {e e' e2 ba bb : Nat} {u0 u1 u2 u3 v0 v1 v2 v3 um : Value} (h0 : Rd w (iT a.q.2.1) u0) (h1 : Rd w (iT a.q.2.2) u1) (h2 : Rd w (iT a.d) u2) (h3 : Rd w (matsT e a.m) u3) (k0 : Rd w (iT b.q.2.1) v0) (k1 : Rd w (iT b.q.2.2) v1) (k2 : Rd w (iT b.d) v2) (k3 : Rd w (matsT e' b.m) v3) (hm : Rd w (matsT e2 ms) um)
    (ca : ∀ (j : Nat) (v : Value), [iV a.p, iV a.q.1, u0, u1, u2, u3][j]? = some v → w.cell? ((⟨ba, 0, none⟩ : Addr).add j) = some v) (cb : ∀ (j : Nat) (v : Value), [iV b.p, iV b.q.1, v0, v1, v2, v3][j]? = some v → w.cell? ((⟨bb, 0, none⟩ : Addr).add j) = some v) :
    Does Tryz.prog 214 [um, .pointer (some ⟨ba, 0, none⟩), .pointer (some ⟨bb, 0, none⟩)] w (fun r H => r = .bool (decide (¬ MorP a b ms)) ∧ H = []) := by
  refine fn_enter Tryz.func214 rfl Tryz.ntmps214 rfl ?_
  repeat' (first | (show oL; first | refine sMv rfl rfl ?_ | refine sAs rfl rfl ?_ | (show oA (.load _ _); first | refine st_y (y_loads tabs (cs := [iV a.p, iV a.q.1, u0, u1, u2, u3]) rfl rfl rfl (fun w c j v h => c.cell (ca j v h))) rfl ?_ | refine st_y (y_loads tabs (cs := [iV b.p, iV b.q.1, v0, v1, v2, v3]) rfl rfl rfl (fun w c j v h => c.cell (cb j v h))) rfl ?_) | (show oA (.unOp _ _ _); refine st_y (y_notd rfl) rfl ?_) | (show oA (.call _); (refine m_call (ent_of Tryz.func41 kr rfl) rfl rfl (fun w c => impl_IsMorphism_ok (a := a) (b := b) (c.rd h0) (c.rd h1) (c.rd h2) (c.rd h3) (c.rd k0) (c.rd k1) (c.rd k2) (c.rd k3) (c.rd hm)) ?_; rintro v H' ⟨rfl, rfl⟩))) | refine xNt ?_ | (show oC; first | refine c_seq ?_ | refine c_region ?_ | refine c_ret ?_))
  exact x_ret1 Tryz.results214 (res_tmp rfl) (fun w' c' => ⟨_, _, rfl, ⟨rfl, rfl⟩, c'⟩)
def CmbP (a b : Rp) (l : List (List Mat)) (ks : List Int) : Prop := FitP a b ∧ VecP a.p ks ∧ ks.length = l.length ∧ ¬ ∃ ms ∈ l, ¬ MorP a b ms
instance (a b : Rp) (l : List (List Mat)) (ks : List Int) : Decidable (CmbP a b l ks) := by unfold CmbP; infer_instance
def cbL (a b : Rp) (l : List (List Mat)) (ks : List Int) : List Mat := if CmbP a b l ks then cutL a.d b.d (mkv (offN a.d b.d a.d.length) (cmS a.p ks l l.length)) else []
theorem impl_CombineMorphisms_ok {w : World} {a b : Rp} {l : List (List Mat)} {ks : List Int} {e e' f f' : Nat} {u0 u1 u2 u3 v0 v1 v2 v3 ul uk : Value} (h0 : Rd w (iT a.q.2.1) u0) (h1 : Rd w (iT a.q.2.2) u1) (h2 : Rd w (iT a.d) u2) (h3 : Rd w (matsT e a.m) u3) (k0 : Rd w (iT b.q.2.1) v0) (k1 : Rd w (iT b.q.2.2) v1) (k2 : Rd w (iT b.d) v2) (k3 : Rd w (matsT e' b.m) v3) (hl : Rd w (mssT f f' l) ul) (hk : Rd w (iT ks) uk) :
    Does Tryz.prog 94 [.agg #[iV a.p, iV a.q.1, u0, u1, u2, u3], .agg #[iV b.p, iV b.q.1, v0, v1, v2, v3], ul, uk] w (GivesMsB (cbL a b l ks) (decide (CmbP a b l ks))) := by
  obtain ⟨al, cl, rfl, hsl, hcl, hdl, _⟩ := rd_mss hl
  obtain ⟨ak, ck, rfl, hsk, hck, hdk, _⟩ := hk.ints
  unfold maxLen at hdl hdk
  by_cases hP : CmbP a b l ks
  · rw [cbL, if_pos hP, decide_eq_true hP]
    obtain ⟨hF, hV, hL, hM⟩ := hP
    have hF' := not_not_intro hF
    have hV' := not_not_intro hV
    have hx : ∀ (i : Nat) (ms : List Mat), l[i]? = some ms → AreP a b ms := fun i ms h => by
      have : MorP a b ms := Decidable.byContradiction (fun hn => hM ⟨ms, List.mem_of_getElem? h, hn⟩)
      exact this.1
    refine fn_enter Tryz.func94 rfl Tryz.ntmps94 rfl ?_
    repeat' (first | (show oL; first | refine sMv rfl rfl ?_ | refine sAs rfl rfl ?_ | refine sFd tabs rfl rfl rfl rfl ?_ | (show oA (.load _ _); first | refine sLb 0 tabs rfl rfl rfl rfl rfl ?_ | refine sLb 1 tabs rfl rfl rfl rfl rfl ?_ | refine sLd 1 tabs rfl rfl rfl rfl rfl ?_) | (show oA (.binOp _ _ _ _ _); refine st_y (y_neq rfl rfl) rfl ?_) | (show oA (.unOp _ _ _); refine st_y (y_notd rfl) rfl ?_) | (show oA (.call _); first | (refine m_call (ent_of Tryz.func164 kr rfl) rfl rfl (fun w c => fit_ok (a := a) (b := b) (c.rd h0) (c.rd h1) (c.rd h2) (c.rd h3) (c.rd k0) (c.rd k1) (c.rd k2) (c.rd k3)) ?_; rintro v H' ⟨rfl, rfl⟩) | (refine m_call (ent_of Tryz.func137 kr rfl) rfl rfl (fun w c => impl_IsVector_ok (c.rd hk)) ?_; rintro v H' ⟨rfl, rfl⟩) | (refine m_call (ent_of Tryz.func213 kr rfl) rfl rfl (fun w c => ContainsFuncL_ok (p := fun ms => ¬ MorP a b ms) (c.rd hl) (ent_of Tryz.func214 kr rfl) (fun w' xs u hm hu' c' => CombineMorphisms1_ok (a := a) (b := b) (c'.rd (c.rd h0)) (c'.rd (c.rd h1)) (c'.rd (c.rd h2)) (c'.rd (c.rd h3)) (c'.rd (c.rd k0)) (c'.rd (c.rd k1)) (c'.rd (c.rd k2)) (c'.rd (c.rd k3)) hu' (fun j v h => c'.cell (hcs_blk 1 rfl (fun j v h => by rw [Nat.zero_add, ← Array.getElem?_toList]; exact h) w c j v h)) (fun j v h => c'.cell (hcs_blk 0 rfl (fun j v h => by rw [Nat.zero_add, ← Array.getElem?_toList]; exact h) w c j v h)))) ?_; rintro v H' ⟨rfl, rfl⟩) | (refine m_call (ent_of Tryz.func215 kr rfl) rfl rfl (fun w c' => combined_ok (a := a) (b := b) (l := l) (ks := ks) (c'.rd h2) (c'.rd k2) (c'.rd hl) (c'.rd hk) hF hL hV.2.2 hx) ?_; rintro v H' ⟨an, cn, rfl, hs2, rfl⟩) | refine sLn tabs rfl rfl rfl ?_) | (show oA (.pick _ _ _); refine st_y (y_pickf rfl aO rfl) rfl ?_) | (show oA (.makeFunc _ _ _); refine st_y (y_fn rfl rfl) rfl ?_) | (show oA (.box _ _); refine m_box rfl rfl (fun b4 hb4 => ?_)) | refine st_gfy rfl rfl aO ?_) | refine xNt ?_ | (show oC; first | refine c_seq ?_ | refine c_region ?_ | refine c_skip (x_then ?_) | refine c_ret ?_ | refine c_iff rfl nN ?_))
    all_goals first | (exfalso; first | exact absurd hF aS | exact absurd hV aS | omega | exact absurd aS hM) | skip
    exact x_ret2 Tryz.results94 (res_tmp rfl) (res_tmp rfl) (fun w' c' => ⟨_, _, rfl, ⟨an, cn, rfl, hs2, rfl⟩, c'.sub (.cons_cons _ (List.nil_sublist _))⟩)
  · rw [cbL, if_neg hP, decide_eq_false hP]
    refine fn_enter Tryz.func94 rfl Tryz.ntmps94 rfl ?_
    repeat' (first | (show oL; first | refine sMv rfl rfl ?_ | refine sAs rfl rfl ?_ | refine sFd tabs rfl rfl rfl rfl ?_ | (show oA (.load _ _); first | refine sLb 0 tabs rfl rfl rfl rfl rfl ?_ | refine sLb 1 tabs rfl rfl rfl rfl rfl ?_ | refine sLd 1 tabs rfl rfl rfl rfl rfl ?_) | (show oA (.binOp _ _ _ _ _); refine st_y (y_neq rfl rfl) rfl ?_) | (show oA (.unOp _ _ _); refine st_y (y_notd rfl) rfl ?_) | (show oA (.call _); first | (refine m_call (ent_of Tryz.func164 kr rfl) rfl rfl (fun w c => fit_ok (a := a) (b := b) (c.rd h0) (c.rd h1) (c.rd h2) (c.rd h3) (c.rd k0) (c.rd k1) (c.rd k2) (c.rd k3)) ?_; rintro v H' ⟨rfl, rfl⟩) | (refine m_call (ent_of Tryz.func137 kr rfl) rfl rfl (fun w c => impl_IsVector_ok (c.rd hk)) ?_; rintro v H' ⟨rfl, rfl⟩) | (refine m_call (ent_of Tryz.func213 kr rfl) rfl rfl (fun w c => ContainsFuncL_ok (p := fun ms => ¬ MorP a b ms) (c.rd hl) (ent_of Tryz.func214 kr rfl) (fun w' xs u hm hu' c' => CombineMorphisms1_ok (a := a) (b := b) (c'.rd (c.rd h0)) (c'.rd (c.rd h1)) (c'.rd (c.rd h2)) (c'.rd (c.rd h3)) (c'.rd (c.rd k0)) (c'.rd (c.rd k1)) (c'.rd (c.rd k2)) (c'.rd (c.rd k3)) hu' (fun j v h => c'.cell (hcs_blk 1 rfl (fun j v h => by rw [Nat.zero_add, ← Array.getElem?_toList]; exact h) w c j v h)) (fun j v h => c'.cell (hcs_blk 0 rfl (fun j v h => by rw [Nat.zero_add, ← Array.getElem?_toList]; exact h) w c j v h)))) ?_; rintro v H' ⟨rfl, rfl⟩) | refine sLn tabs rfl rfl rfl ?_) | (show oA (.pick _ _ _); first | refine st_y (y_pickt rfl aO rfl) rfl ?_ | refine st_y (y_pickf rfl aO rfl) rfl ?_ | refine st_y (y_pick rfl rfl rfl) rfl ?_) | (show oA (.makeFunc _ _ _); refine st_y (y_fn rfl rfl) rfl ?_) | (show oA (.box _ _); refine m_box rfl rfl (fun b4 hb4 => ?_)) | refine st_gn rfl rfl rfl ?_ | refine st_gfy rfl rfl aO ?_ | refine st_gfn rfl rfl aO rfl ?_ | refine st_gd rfl rfl (fun h => ?_) (fun h => ?_)) | refine xNt ?_ | (show oC; first | refine c_seq ?_ | refine c_region ?_ | refine c_skip (x_then ?_) | refine c_ret ?_ | refine c_true rfl ?_ | refine c_if rfl (fun h => ?_) (fun h => ?_)) | (show AT _ _ _ _; refine x_then_ret ?_))
    all_goals first | exact x_ret2 Tryz.results94 (res_tmp rfl) (res_tmp rfl) (fun w' c' => ⟨_, _, rfl, ⟨none, 0, rfl, .inl rfl, rfl⟩, Hp.nilp _ _ (c'.sub (List.nil_sublist _))⟩) | skip
    all_goals exact absurd ⟨by first | assumption | exact Decidable.not_not.1 aS, by first | assumption | exact Decidable.not_not.1 aS, by omega, by assumption⟩ hP
end Go.Proofs.YtijjkfbkihgfgaaGreat
