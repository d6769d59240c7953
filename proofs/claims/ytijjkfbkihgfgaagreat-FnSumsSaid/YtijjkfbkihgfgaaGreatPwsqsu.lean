import Derived.Test.YtijjkfbkihgfgaaGreatFitqsu
import Derived.Test.YtijjkfbkihgfgaaGreatLGqsu
import Derived.Test.YtijjkfbkihgfgaaGreatLwsqsu
import Derived.Test.YtijjkfbkihgfgaaGreatPwiqsu
namespace Go.Lg
open Go.RowKit
section
variable {P : Program} {n : Nat} {S C : World → Prop} {s : List (Nat × Value)} {K : Act → World → Prop} {ops : Array Oper} {fuel : Nat} {listed : Array Bool}
theorem h_taken (i : Nat) {op : Op} {d ty j dj : Nat} {pos : String} {af : Array Edge} {b : Bool} (hi : ops[i]? = some ⟨some d, op, ty, pos, af, some (j, b)⟩)
    (hs : Region.noSelect ops = true) (hf : Region.free .any ops listed i = true) (hr : (Region.ready .any ops listed).contains i = true)
    (hj : (ops[j]?).bind (·.dst) = some dj) (hb : lk s dj = some (.bool (!b))) (hd : Nat.blt d n = true) (hS : ∀ w, C w → S w)
    (h : AT n C ((d, undef) :: s) (wpAnyH P .any ops (Qn K) S fuel (listed.setIfInBounds i true))) : AT n C s (wpAnyH P .any ops (Qn K) S (fuel + 1) listed) := fun a w f c =>
  wpAnyH_take hi hs hf hr (fun _ _ _ h => h.elim) (.inr ⟨by simp [Region.wanted, yielded, hj, f.has _ _ hb], rfl⟩) (hS w c) (h _ w (f.put (by simpa [Nat.blt_eq] using hd) undef) c)
end
end Go.Lg
namespace Go.Proofs.YtijjkfbkihgfgaaGreat
open Go.Lg Go.Proofs Go.RowKit
attribute [local irreducible] Code.wp wpList bodyPost Exit.then Exit.inBlock Hp Again Calls Y AT ResV QT Qn QI wpAny wpAnyQ
set_option maxRecDepth 20000
set_option maxHeartbeats 4000000

theorem y_neqi_eq {P : Program} {n : Nat} {C : World → Prop} {s : List (Nat × Value)} {x y : Operand} {p q : Int} {t t' ty : Nat} (hx : ev s x = some (.int .i64 p)) (hy : ev s y = some (.int .i64 q)) (h : p = q) : Y P n C s (.binOp .neq t x y t') ty (.bool false) := by
  subst h
  have := y_neq (P := P) (n := n) (C := C) (t := t) (t' := t') (ty := ty) hx hy
  simpa using this
theorem y_eqli_eq {P : Program} {n : Nat} {C : World → Prop} {s : List (Nat × Value)} {x y : Operand} {p q : Int} {t t' ty : Nat} (hx : ev s x = some (.int .i64 p)) (hy : ev s y = some (.int .i64 q)) (h : p = q) : Y P n C s (.binOp .eql t x y t') ty (.bool true) := by
  subst h
  have := y_eql (P := P) (n := n) (C := C) (t := t) (t' := t') (ty := ty) hx hy
  simpa using this
theorem eqr_same {w : World} {r : Rp} {e e' : Nat} {u0 u1 u2 u3 v0 v1 v2 v3 : Value} (h0 : Rd w (iT r.q.2.1) u0) (h1 : Rd w (iT r.q.2.2) u1) (h2 : Rd w (iT r.d) u2) (h3 : Rd w (matsT e r.m) u3) (k0 : Rd w (iT r.q.2.1) v0) (k1 : Rd w (iT r.q.2.2) v1) (k2 : Rd w (iT r.d) v2) (k3 : Rd w (matsT e' r.m) v3) :
    Does Tryz.prog 67 [.agg #[iV r.p, iV r.q.1, u0, u1, u2, u3], .agg #[iV r.p, iV r.q.1, v0, v1, v2, v3]] w (fun r H => r = .bool true ∧ H = []) := by
  obtain ⟨a3, c3, rfl, hs3, _, hm3, hg3⟩ := rd_mats h3
  obtain ⟨b3, d3, rfl, ks3, _, _, kg3⟩ := rd_mats k3
  unfold maxLen at hm3
  have tok0 : True := trivial
  refine fn_enter Tryz.func67 rfl Tryz.ntmps67 rfl ?_
  repeat' (first | (show oL; first | refine sMv rfl rfl ?_ | refine sAs rfl rfl ?_ | refine sFd tabs rfl rfl rfl rfl ?_ | (show oA (.load _ _); first | refine sLd 1 tabs rfl rfl rfl rfl rfl ?_ | refine sLd 0 tabs rfl rfl rfl rfl rfl ?_ | refine st_y (y_load3 tabs rfl rfl (hc_blk 1 rfl rfl) (hc_blk 1 rfl rfl) (hc_blk 1 rfl rfl)) rfl ?_ | refine st_y (y_load3 tabs rfl rfl (hc_blk 0 rfl rfl) (hc_blk 0 rfl rfl) (hc_blk 0 rfl rfl)) rfl ?_) | (show oA (.binOp _ _ _ _ _); refine st_y (y_neqi_eq rfl rfl rfl) rfl ?_) | (show oA (.unOp _ _ _); refine st_y (y_not rfl) rfl ?_) | (show oA (.call _); first | (refine m_call (ent_of Tryz.func179 kr rfl) rfl rfl (fun w c => spec_EqualQuivers_ok (q := r.q) (q' := r.q) (c.rd h0) (c.rd h1) (c.rd k0) (c.rd k1)) ?_; rw [decide_eq_true rfl]; rintro v H' ⟨rfl, rfl⟩) | (refine m_call (ent_of Tryz.func162 kr rfl) rfl rfl (fun w c => l6Same_ok w _ _ r.d r.d (c.rd h2) (c.rd k2)) ?_; rw [decide_eq_true rfl]; rintro v H' ⟨rfl, rfl⟩) | refine sLn tabs rfl rfl rfl ?_) | (show oA (.pick _ _ _); refine st_y (y_pick rfl rfl rfl) rfl ?_) | (show oA (.box _ _); first | (have _t := tok0; refine m_box rfl rfl (fun ba hba => ?_); clear _t tok0) | refine m_box rfl rfl (fun bb hbb => ?_)) | refine st_gy rfl rfl ?_) | refine xNt ?_ | (show oC; first | refine c_seq ?_ | refine c_region ?_ | refine c_skip (x_then ?_) | refine c_block ?_ | refine c_false rfl ?_))
  refine c_loopH (α := Nat) [2, 3] (fun i => [(5, iV i)]) (fun i => i ≤ r.m.length) (fun i => [.blk bb #[iV r.p, iV r.q.1, v0, v1, v2, .slice b3 r.m.length d3] 60, .blk ba #[iV r.p, iV r.q.1, u0, u1, u2, .slice a3 r.m.length c3] 60]) (fun i => r.m.length - i) 0 rfl sB ?_ ?_ ?_
  · exact Nat.zero_le _
  · exact fun w' c' => c'
  · intro i hi
    by_cases hin : i < r.m.length
    · obtain ⟨m, hm⟩ : ∃ m, r.m[i]? = some m := ⟨_, List.getElem?_eq_getElem hin⟩
      obtain ⟨a1, c1, p0, p1, p2, p3⟩ := hg3 i m hm
      obtain ⟨a2, c2, q0, q1, q2, q3⟩ := kg3 i m hm
      repeat' (first | (show oL; first | refine sMv rfl rfl ?_ | refine sAs rfl rfl ?_ | refine sFd tabs rfl rfl rfl rfl ?_ | refine sLd 1 tabs rfl rfl rfl rfl rfl ?_ | (show oA (.binOp _ _ _ _ _); first | refine sAd rfl rfl om rfl ?_ | refine sLs rfl rfl rfl ?_) | refine sLn tabs rfl rfl rfl ?_) | refine xNt ?_ | (show oC; first | refine c_seq ?_ | refine c_region ?_ | refine c_skip (x_then ?_) | refine c_skip (x_blk ?_) | refine c_block ?_ | refine c_draw kr kr (fun _ c => Hp.drew c) ?_ | refine c_false rfl ?_ | refine c_ift rfl aO ?_) | (show QT _ _ _ _ _ _ (_ :: _); first | refine qMv rfl rfl ?_ | refine qFd tabs rfl rfl rfl rfl ?_ | (show qA (.load _ _); first | refine qLd 1 tabs rfl rfl rfl rfl rfl ?_ | refine qLd 0 tabs rfl rfl rfl rfl rfl ?_ | refine q_y (y_load3 tabs rfl rfl (hc_w0 p0) (hc_w0 p1) (hc_w0 p2)) rfl ?_ | refine q_y (y_load3 tabs rfl rfl (hc_w0 q0) (hc_w0 q1) (hc_w0 q2)) rfl ?_) | (show qA (.indexAddr _ _ _); refine q_y (y_ixa tabs rfl rfl rfl mK om om) rfl ?_) | (show qA (.unOp _ _ _); refine q_y (y_not rfl) rfl ?_) | (show qA (.call _); refine q_call (ent_of Tryz.func152 kr rfl) rfl rfl (fun w c => spec_EqM_same (m := m) (c.rd p3) (c.rd q3)) (fun u H' h => h.1) ?_)) | (show QT _ _ _ _ _ _ []; refine q_nil (x_then ?_)) | (show AT _ _ _ _; refine x_then ?_))
      exact x_nx (i + 1) sB om (fun w' c' => c') om
    · have : i = r.m.length := by omega
      subst this
      repeat' (first | (show oL; first | refine sMv rfl rfl ?_ | refine sAs rfl rfl ?_ | refine sFd tabs rfl rfl rfl rfl ?_ | refine sLd 1 tabs rfl rfl rfl rfl rfl ?_ | refine sLs rfl rfl rfl ?_ | refine sLn tabs rfl rfl rfl ?_) | refine xNt ?_ | (show oC; first | refine c_seq ?_ | refine c_region ?_ | refine c_ret ?_ | refine c_exit ?_ | refine c_iff rfl nN ?_) | (show AT _ _ _ _; first | refine x_then ?_ | refine x_then_exit ?_ | refine x_blk_exit rfl ?_))
      exact x_ret1 Tryz.results67 (res_tmp rfl) (fun w' c' => ⟨_, _, rfl, ⟨rfl, rfl⟩, c'.sub (List.nil_sublist _)⟩)
end Go.Proofs.YtijjkfbkihgfgaaGreat

namespace Go.Proofs.YtijjkfbkihgfgaaGreat
open Go.Lg Go.Proofs Go.RowKit
attribute [local irreducible] Code.wp wpList bodyPost Exit.then Exit.inBlock Hp Again Calls Y AT ResV QT Qn QI wpAny wpAnyQ
set_option maxRecDepth 20000
set_option maxHeartbeats 4000000

theorem spec_PowerOfRep_ok {w : World} {r : Rp} {n : Int} {e : Nat} {u0 u1 u2 u3 : Value} (h0 : Rd w (iT r.q.2.1) u0) (h1 : Rd w (iT r.q.2.2) u1) (h2 : Rd w (iT r.d) u2) (h3 : Rd w (matsT e r.m) u3) :
    Does Tryz.prog 78 [.agg #[iV r.p, iV r.q.1, u0, u1, u2, u3], iV n] w (GivesRB (soR (pwL r n)) (decide (SoP (pwL r n)))) := by
  obtain ⟨a0, c0, rfl, hs0, _, _, _⟩ := h0.ints
  obtain ⟨a1, c1, rfl, hs1, _, _, _⟩ := h1.ints
  obtain ⟨a2, c2, rfl, hs2, _, _, _⟩ := h2.ints
  obtain ⟨a3, c3, rfl, hs3, _, _, _⟩ := rd_mats h3
  have hC := rdC_rp h0 h1 h2 h3
  obtain ⟨us, hus⟩ : ∃ us : List Value, us = [iV r.p, iV r.q.1, .slice a0 r.q.2.1.length c0, .slice a1 r.q.2.2.length c1, .slice a2 r.d.length c2, .slice a3 r.m.length c3] := ⟨_, rfl⟩
  have hul : us.length = 6 := by rw [hus]; rfl
  have hu1 : ∀ u ∈ us, u.oneCell' = true := by rw [hus]; simp [Value.oneCell']
  rw [← hus] at hC
  refine fn_enter Tryz.func78 rfl Tryz.ntmps78 rfl ?_
  repeat' (first | (show oL; first | refine sAs rfl rfl ?_ | (show oA (.box _ _); refine m_box rfl rfl (fun b2 hb2 => ?_)) | (show oA (.alloc _); refine m_alloc tabs rfl rfl (fun b4 hb4 => ?_)) | (show oA (.buildSlice _ _ _); refine m_build0 tabs rfl rfl (fun g hg => ?_))) | refine xNt ?_ | (show oC; first | refine c_seq ?_ | refine c_region ?_ | refine c_block ?_))
  refine c_loopH (α := Nat × Option Addr × Nat) [1, 2, 4] (fun s => [(6, .slice s.2.1 s.1 s.2.2), (7, .int .i64 s.1)]) (fun s => s.1 ≤ min n.toNat 9) (fun s => [.own (.s 60 6 (((List.replicate s.1 us).flatten).map T.c)) (.slice s.2.1 s.1 s.2.2), .blk b4 #[iV 0, iV 0, .slice none 0 0, .slice none 0 0, .slice none 0 0, .slice none 0 0] 60, .blk b2 #[iV r.p, iV r.q.1, .slice a0 r.q.2.1.length c0, .slice a1 r.q.2.2.length c1, .slice a2 r.d.length c2, .slice a3 r.m.length c3] 60]) (fun s => min n.toNat 9 - s.1) (0, some ⟨g, 0, none⟩, 0) rfl sB ?_ ?_ ?_
  · exact Nat.zero_le _
  · exact fun w' c' => c'
  · rintro ⟨i, al, cl⟩ hi
    simp only at hi ⊢
    have hfl := rflat_len (n := i) hul
    by_cases hin : i < min n.toNat 9
    · have e1 : ((List.replicate i us).flatten).map T.c ++ us.map T.c = ((List.replicate (i + 1) us).flatten).map T.c := by
        rw [← List.map_append, List.replicate_succ', List.flatten_append]; simp
      repeat' (first | (show oL; first | refine sMv rfl rfl ?_ | refine sAs rfl rfl ?_ | refine sLb 2 tabs rfl rfl rfl rfl rfl ?_ | (show oA (.binOp _ _ _ _ _); first | refine sAd rfl rfl om rfl ?_ | refine sLs rfl rfl rfl ?_ | refine st_y (y_leq rfl rfl) rfl ?_) | (show oA (.call _); refine m_app tabs (m := 1) (m' := i + 1) (ts := ((List.replicate i us).flatten).map T.c) (tn := us.map T.c) (news := us) (k := 6) rfl rfl rfl rfl om hu1 (by rw [List.length_map, List.length_map]; omega) (by rw [List.length_map]; omega) (by decide) (fun w' c' => (c'.free us).front (i := 2) rfl) (fun w' c' => .inr ⟨_, rfl, fun j u hj => by rw [Addr.add_lit]; exact hc_blk 0 rfl (by rw [Nat.zero_add, List.getElem?_toArray]; exact hj) w' c'⟩) (fun a9 c9 => ?_)) | (show oA (.pick _ _ _); refine st_y (y_pickt rfl aO rfl) rfl ?_) | (show oA (.buildSlice _ _ _); refine m_build1 tabs (us := us) rfl rfl (by rw [hus]; rfl) hul (by decide) rfl (fun g5 hg5 => ?_)) | refine st_gdy rfl rfl aO ?_) | (show oN; first | refine c_nil (x_then ?_) | refine c_nil ?_) | (show oC; first | refine c_seq ?_ | refine c_region ?_ | refine c_skip (x_then ?_) | refine c_block ?_ | refine c_ift rfl aO ?_) | (show AT _ _ _ _; first | refine x_then ?_ | refine x_blk ?_))
      refine x_nx (i + 1, a9, c9) sB (by simp only; omega) (fun w' c' => ?_) (by simp only; omega)
      rw [e1] at c'
      exact c'.sub sL
    · have hie : i = min n.toNat 9 := by omega
      by_cases hn : (i : Int) < n
      · have h9 : ¬ (i : Int) ≤ 8 := by omega
        repeat' (first | (show oL; first | refine sMv rfl rfl ?_ | refine sAs rfl rfl ?_ | refine sLb 0 tabs rfl rfl rfl rfl rfl ?_ | (show oA (.binOp _ _ _ _ _); first | refine sLs rfl rfl rfl ?_ | refine st_y (y_leq rfl rfl) rfl ?_) | (show oA (.call _); (refine m_call (ent_of Tryz.func75 kr rfl) rfl rfl (fun w c => spec_SumOf_ok (l := pwL r n) (e := 60) (by rw [pwL, ← hie, rpsT, rps_rep]; exact rd_namedk (c.own_rd (i := 0) rfl) (rdC_rep (c.rdC hC) i))) ?_; rintro v H' ⟨aF, cF, aT, cT, ad, cd, am, cm, rfl, hsF, hsT, hsd, hsm, rfl⟩)) | (show oA (.extract _ _); refine st_y (y_ext rfl rfl) rfl ?_) | (show oA (.pick _ _ _); refine st_y (y_pickt rfl aO rfl) rfl ?_) | (show oA (.store _ _ _); first | refine m_storeb 0 tabs rfl rfl rfl rfl rfl rfl rfl ?_ | refine m_storeb 6 tabs rfl rfl rfl rfl rfl rfl rfl ?_) | (show oA (.alloc _); refine m_alloc tabs rfl rfl (fun b8 hb8 => ?_)) | refine st_gdy rfl rfl aO ?_) | refine xNt ?_ | (show oC; first | refine c_seq ?_ | refine c_region ?_ | refine c_ret ?_ | refine c_exit ?_ | refine c_iff rfl nN ?_) | (show AT _ _ _ _; first | refine x_then ?_ | refine x_then_exit ?_ | refine x_blk_exit rfl ?_))
        exact x_ret2 Tryz.results78 (res_cellb 6 tabs rfl rfl rfl rfl) (res_tmp rfl) (fun w' c' => ⟨_, _, rfl, ⟨aF, cF, aT, cT, ad, cd, am, cm, rfl, hsF, hsT, hsd, hsm, rfl⟩, c'.sub sL⟩)
      · repeat' (first | (show oL; first | refine sMv rfl rfl ?_ | refine sAs rfl rfl ?_ | refine sLb 0 tabs rfl rfl rfl rfl rfl ?_ | refine sLs rfl rfl rfl ?_ | (show oA (.call _); (refine m_call (ent_of Tryz.func75 kr rfl) rfl rfl (fun w c => spec_SumOf_ok (l := pwL r n) (e := 60) (by rw [pwL, ← hie, rpsT, rps_rep]; exact rd_namedk (c.own_rd (i := 0) rfl) (rdC_rep (c.rdC hC) i))) ?_; rintro v H' ⟨aF, cF, aT, cT, ad, cd, am, cm, rfl, hsF, hsT, hsd, hsm, rfl⟩)) | (show oA (.extract _ _); refine st_y (y_ext rfl rfl) rfl ?_) | (show oA (.pick _ _ _); refine st_y (y_pickf rfl aO rfl) rfl ?_) | (show oA (.store _ _ _); first | refine m_storeb 0 tabs rfl rfl rfl rfl rfl rfl rfl ?_ | refine m_storeb 6 tabs rfl rfl rfl rfl rfl rfl rfl ?_) | (show oA (.alloc _); refine m_alloc tabs rfl rfl (fun b8 hb8 => ?_)) | refine st_gdn rfl rfl aO rfl ?_) | refine xNt ?_ | (show oC; first | refine c_seq ?_ | refine c_region ?_ | refine c_ret ?_ | refine c_exit ?_ | refine c_false rfl ?_) | (show AT _ _ _ _; first | refine x_then ?_ | refine x_then_exit ?_ | refine x_blk_exit rfl ?_))
        exact x_ret2 Tryz.results78 (res_cellb 6 tabs rfl rfl rfl rfl) (res_tmp rfl) (fun w' c' => ⟨_, _, rfl, ⟨aF, cF, aT, cT, ad, cd, am, cm, rfl, hsF, hsT, hsd, hsm, rfl⟩, c'.sub sL⟩)
end Go.Proofs.YtijjkfbkihgfgaaGreat
