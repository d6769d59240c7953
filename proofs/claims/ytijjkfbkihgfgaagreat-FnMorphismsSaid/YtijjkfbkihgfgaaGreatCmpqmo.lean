import Derived.Test.YtijjkfbkihgfgaaGreatMphqmo
namespace Go.Proofs.YtijjkfbkihgfgaaGreat
open Go.Lg Go.Proofs Go.RowKit
attribute [local irreducible] Code.wp wpList bodyPost Exit.then Exit.inBlock Hp Again Calls Y AT ResV QT Qn QI wpAny wpAnyQ
set_option maxRecDepth 20000
set_option maxHeartbeats 4000000

/-! ### lists of made matrices; products of matrices vertex by vertex -/
def tabM (F : Nat → Mat) (n : Nat) : List Mat := (List.range n).map F
@[simp] theorem tabM_length {F : Nat → Mat} {n : Nat} : (tabM F n).length = n := by simp [tabM]
theorem tabM_next {F : Nat → Mat} {i x y : Nat} {f : Nat → Nat → Int} (hz : F i = ((x : Int), (y : Int), mk x y f)) : (tabM F i).flatMap matT ++ (List.map T.c [iV x, iV y] ++ [iT (mk x y f)]) = (tabM F (i + 1)).flatMap matT := by
  have e1 : tabM F (i + 1) = tabM F i ++ [F i] := by simp [tabM, List.range_succ]
  rw [e1, List.flatMap_append, hz]; rfl
def cmpM (p : Int) (fs gs : List Mat) (v : Nat) : Mat := (((gs.getD v mat0).1.toNat : Nat), ((fs.getD v mat0).2.1.toNat : Nat), mk (gs.getD v mat0).1.toNat (fs.getD v mat0).2.1.toNat (mulF p (fs.getD v mat0).1.toNat (matF (gs.getD v mat0)) (matF (fs.getD v mat0))))
def CmpP (p : Int) (fs gs : List Mat) : Prop := FieldP p ∧ gs.length = fs.length ∧ ∀ v, v < fs.length → ∃ (R N C : Nat) (f g : Mat), fs[v]? = some f ∧ gs[v]? = some g ∧ R ≤ 8 ∧ N ≤ 8 ∧ C ≤ 8 ∧ CellsP p f N C ∧ CellsP p g R N ∧ cmpM p fs gs v = ((R : Int), (C : Int), mk R C (mulF p N (matF g) (matF f)))
theorem cmp_of {a b c : Rp} {fs gs : List Mat} (h : AreP a b fs) (h' : AreP b c gs) : CmpP a.p fs gs := by
  obtain ⟨hF, hl, hE⟩ := h
  obtain ⟨hF', hl', hE'⟩ := h'
  have hd := hF.dl
  have hp := hF.2.2.1
  refine ⟨hF.1.1, by omega, fun v hv => ?_⟩
  have hv' : v < gs.length := by omega
  obtain ⟨f, hf⟩ : ∃ m, fs[v]? = some m := ⟨_, List.getElem?_eq_getElem hv⟩
  obtain ⟨g, hg⟩ : ∃ m, gs[v]? = some m := ⟨_, List.getElem?_eq_getElem hv'⟩
  have gf : fs.getD v mat0 = f := by rw [List.getD, hf]; rfl
  have gg : gs.getD v mat0 = g := by rw [List.getD, hg]; rfl
  obtain ⟨p1, p2, p3⟩ := hE v hv
  obtain ⟨q1, q2, q3⟩ := hE' v hv'
  rw [gf] at p1 p2 p3
  rw [gg, ← hp] at q1
  rw [gg] at q2 q3
  have d1 := hF.1.dg v
  have d2 := hF'.1.dg v
  have d3 := hF'.2.1.dg v
  refine ⟨(c.d.getD v 0).toNat, (b.d.getD v 0).toNat, (a.d.getD v 0).toNat, f, g, hf, hg, by omega, by omega, by omega, cellsP_of p1 om om, cellsP_of q1 om om, ?_⟩
  simp only [cmpM, gf, gg, p2, p3, q3]
def cmpL (p : Int) (fs gs : List Mat) : List Mat := tabM (cmpM p fs gs) fs.length
theorem composed_ok {w : World} {p : Int} {fs gs : List Mat} {e e' : Nat} {uf ug : Value} (hf : Rd w (matsT e fs) uf) (hg : Rd w (matsT e' gs) ug) (hC : CmpP p fs gs) (hb : fs.length ≤ 1000) :
    Does Tryz.prog 150 [iV p, uf, ug] w (GivesMs (cmpL p fs gs)) := by
  obtain ⟨hF, hlen, hat⟩ := hC
  obtain ⟨af, cf, rfl, hsf, _, _, hgf⟩ := rd_mats hf
  obtain ⟨ag, cg, rfl, hsg, _, _, hgg⟩ := rd_mats hg
  refine fn_enter Tryz.func150 rfl Tryz.ntmps150 rfl ?_
  repeat' (first | (show oL; first | (show oA (.move _); refine st_y (y_move rfl) rfl ?_) | (show oA (.assign _); refine st_y (y_assign rfl) rfl ?_) | (show oA (.call _); refine st_y (y_len tabs rfl rfl) rfl ?_)) | (show oN; refine c_nil (x_then ?_)) | (show oC; first | refine c_seq ?_ | refine c_region ?_ | refine c_block ?_))
  refine c_loopH (α := Nat × Option Addr × Nat) [0, 2, 10, 11] (fun s => [(7, .slice s.2.1 s.1 s.2.2), (12, .int .i64 s.1)]) (fun s => s.1 ≤ fs.length) (fun s => [.own (matsT 47 (tabM (cmpM p fs gs) s.1)) (.slice s.2.1 s.1 s.2.2)]) (fun s => fs.length - s.1) (0, none, 0) rfl sB ?_ ?_ ?_
  · exact Nat.zero_le _
  · exact fun w' c' => Hp.nilp _ _ c'
  · rintro ⟨i, al, cl⟩ hi
    simp only at hi ⊢
    by_cases hin : i < fs.length
    · obtain ⟨R, N, C, f, g, hfi, hgi, hR, hN, hCC, ⟨f1, f2, f3, f4⟩, ⟨g1, g2, g3, g4⟩, hz⟩ := hat i hin
      obtain ⟨a1, c1, f5, f6, f7, f8⟩ := hgf i f hfi
      obtain ⟨a2, c2, g5, g6, g7, g8⟩ := hgg i g hgi
      rw [f1] at f5; rw [f2] at f6; rw [f3] at f7 f8; rw [mk_length] at f7 f8
      rw [g1] at g5; rw [g2] at g6; rw [g3] at g7 g8; rw [mk_length] at g7 g8
      repeat' (first | (show oL; first | (show oA (.move _); refine st_y (y_move rfl) rfl ?_) | (show oA (.assign _); refine st_y (y_assign rfl) rfl ?_) | (show oA (.load _ _); refine st_y (y_load3 tabs rfl rfl (hc_w0 f5) (hc_w0 f6) (hc_w0 f7)) rfl ?_) | (show oA (.indexAddr _ _ _); refine st_y (y_ixa tabs rfl rfl rfl (by first | assumption | exact .mk) om om) rfl ?_) | (show oA (.binOp _ _ _ _ _); refine st_y (y_lss rfl rfl) rfl ?_) | (show oA (.store _ _ _); refine m_storeb 0 tabs rfl rfl rfl rfl rfl rfl rfl ?_) | (show oA (.alloc _); refine m_alloc tabs rfl rfl (fun b9 hb9 => ?_))) | (show oN; refine c_nil (x_then ?_)) | (show oC; first | refine c_seq ?_ | refine c_region ?_ | refine c_skip (x_then ?_) | refine c_block ?_ | refine c_ift rfl aO ?_))
      refine c_all (Hp [] w [.blk b9 #[iV N, iV C, .slice a1 (N * C) c1] 47]) kr (fun _ c => Hp.drew c) ?_
      refine h_take 0 rfl kr kr kr (by exact y_move rfl) rfl (fun w c => by exact c.sub sL) ?_
      refine h_take 1 rfl kr kr kr (by exact y_move rfl) rfl (fun w c => by exact c.sub sL) ?_
      refine h_take 2 rfl kr kr kr (by exact y_move rfl) rfl (fun w c => by exact c.sub sL) ?_
      refine h_take 3 rfl kr kr kr (by exact y_move rfl) rfl (fun w c => by exact c.sub sL) ?_
      refine h_take 4 rfl kr kr kr (by exact y_ixa tabs rfl rfl rfl hsg om om) rfl (fun w c => by exact c.sub sL) ?_
      refine h_take 5 rfl kr kr kr (by exact y_load3 tabs rfl rfl (hc_w0 g5) (hc_w0 g6) (hc_w0 g7)) rfl (fun w c => by exact c.sub sL) ?_
      refine h_take 6 rfl kr kr kr (by exact y_loadb 0 tabs rfl rfl rfl rfl) rfl (fun w c => by exact c.sub sL) ?_
      refine h_only 7 rfl kr ?_
      first | (refine m_build1 tabs (us := [iV R, iV C, .slice a7 (R * C) c7]) rfl rfl rfl rfl (by decide) rfl (fun g5 hg5 => ?_)) | (refine m_call (ent_of Tryz.func183 kr rfl) rfl rfl (fun w c => times_ok (c.rd g8) (c.rd f8) hF om om om g4 f4) ?_; rintro v H' ⟨a7, c7, rfl, hs7, rfl⟩) | (refine m_push1 [iV R, iV C] 1 0 tabs (m' := i) rfl rfl rfl rfl rfl rfl rfl (by rw [flatMap_length matT_length, tabM_length]) (by rw [flatMap_length matT_length, tabM_length]; omega) (by decide) rfl rfl (fun a10 c10 => ?_))
      refine c_nil (x_one (h_keep (fun w c => by exact c.sub sL) ?_))
      refine h_only 8 rfl kr ?_
      first | (refine m_build1 tabs (us := [iV R, iV C, .slice a7 (R * C) c7]) rfl rfl rfl rfl (by decide) rfl (fun g5 hg5 => ?_)) | (refine m_call (ent_of Tryz.func183 kr rfl) rfl rfl (fun w c => times_ok (c.rd g8) (c.rd f8) hF om om om g4 f4) ?_; rintro v H' ⟨a7, c7, rfl, hs7, rfl⟩) | (refine m_push1 [iV R, iV C] 1 0 tabs (m' := i) rfl rfl rfl rfl rfl rfl rfl (by rw [flatMap_length matT_length, tabM_length]) (by rw [flatMap_length matT_length, tabM_length]; omega) (by decide) rfl rfl (fun a10 c10 => ?_))
      refine c_nil (x_one (h_keep (fun w c => by exact c.sub sL) ?_))
      refine h_only 9 rfl kr ?_
      first | (refine m_build1 tabs (us := [iV R, iV C, .slice a7 (R * C) c7]) rfl rfl rfl rfl (by decide) rfl (fun g5 hg5 => ?_)) | (refine m_call (ent_of Tryz.func183 kr rfl) rfl rfl (fun w c => times_ok (c.rd g8) (c.rd f8) hF om om om g4 f4) ?_; rintro v H' ⟨a7, c7, rfl, hs7, rfl⟩) | (refine m_push1 [iV R, iV C] 1 0 tabs (m' := i) rfl rfl rfl rfl rfl rfl rfl (by rw [flatMap_length matT_length, tabM_length]) (by rw [flatMap_length matT_length, tabM_length]; omega) (by decide) rfl rfl (fun a10 c10 => ?_))
      refine c_nil (x_one (h_keep (fun w c => by exact c.drop) ?_))
      refine h_take 10 rfl kr kr kr (by exact y_assign rfl) rfl (fun w c => by exact c.drop) ?_
      refine h_end kr ?_
      repeat' (first | (show oL; first | (show oA (.move _); refine st_y (y_move rfl) rfl ?_) | (show oA (.binOp _ _ _ _ _); refine st_y (y_add rfl rfl om) rfl ?_)) | (show oN; refine c_nil (x_then ?_)) | (show oC; refine c_region ?_) | (show AT _ _ _ _; first | refine x_then ?_ | refine x_blk ?_))
      refine x_nx (i + 1, a10, c10) sB (by simp only; omega) (fun w' c' => ?_) (by simp only; omega)
      rw [tabM_next hz] at c'
      exact c'.sub (.cons_cons _ (List.nil_sublist _))
    · have : i = fs.length := by omega
      subst this
      refine AT.fact (mats_sl 0 rfl) (fun hsl => ?_)
      rw [tabM_length] at hsl
      repeat' (first | (show oL; first | (show oA (.move _); refine st_y (y_move rfl) rfl ?_) | (show oA (.assign _); refine st_y (y_assign rfl) rfl ?_) | (show oA (.binOp _ _ _ _ _); refine st_y (y_lss rfl rfl) rfl ?_)) | (show oN; refine c_nil (x_then ?_)) | (show oC; first | refine c_seq ?_ | refine c_region ?_ | refine c_ret ?_ | refine c_exit ?_ | refine c_iff rfl nN ?_) | (show AT _ _ _ _; first | refine x_then ?_ | refine x_then_exit ?_ | refine x_blk_exit rfl ?_))
      exact x_ret1 Tryz.results150 (res_tmp rfl) (fun w' c' => ⟨_, _, rfl, ⟨al, cl, by rw [cmpL, tabM_length], by rw [cmpL, tabM_length]; exact hsl, by rw [cmpL, tabM_length]⟩, c'.sub (.cons_cons _ (List.nil_sublist _))⟩)
def ComP (a b c : Rp) (fs gs : List Mat) : Prop := MorP a b fs ∧ MorP b c gs
instance (a b c : Rp) (fs gs : List Mat) : Decidable (ComP a b c fs gs) := by unfold ComP; infer_instance
def comL (a b c : Rp) (fs gs : List Mat) : List Mat := if ComP a b c fs gs then cmpL a.p fs gs else []
theorem AreP.ml {a b : Rp} {ms : List Mat} (h : AreP a b ms) : ms.length ≤ 5 := by
  have h1 := (RepP.dd h.1.1).2
  have h2 := h.2.1
  omega
theorem impl_ComposeMorphisms_ok {w : World} {a b c : Rp} {fs gs : List Mat} {e e' e3 e4 e5 : Nat} {u0 u1 u2 u3 v0 v1 v2 v3 z0 z1 z2 z3 uf ug : Value} (h0 : Rd w (iT a.q.2.1) u0) (h1 : Rd w (iT a.q.2.2) u1) (h2 : Rd w (iT a.d) u2) (h3 : Rd w (matsT e a.m) u3) (k0 : Rd w (iT b.q.2.1) v0) (k1 : Rd w (iT b.q.2.2) v1) (k2 : Rd w (iT b.d) v2) (k3 : Rd w (matsT e' b.m) v3) (l0 : Rd w (iT c.q.2.1) z0) (l1 : Rd w (iT c.q.2.2) z1) (l2 : Rd w (iT c.d) z2) (l3 : Rd w (matsT e3 c.m) z3) (hf : Rd w (matsT e4 fs) uf) (hg : Rd w (matsT e5 gs) ug) :
    Does Tryz.prog 38 [.agg #[iV a.p, iV a.q.1, u0, u1, u2, u3], .agg #[iV b.p, iV b.q.1, v0, v1, v2, v3], .agg #[iV c.p, iV c.q.1, z0, z1, z2, z3], uf, ug] w (GivesMsB (comL a b c fs gs) (decide (ComP a b c fs gs))) := by
  by_cases hC : ComP a b c fs gs
  · rw [comL, if_pos hC, decide_eq_true hC]
    have hX := hC.1
    have hY := hC.2
    refine fn_enter Tryz.func38 rfl Tryz.ntmps38 rfl ?_
    repeat' (first | (show oL; first | (show oA (.move _); refine st_y (y_move rfl) rfl ?_) | (show oA (.assign _); refine st_y (y_assign rfl) rfl ?_) | (show oA (.fieldAddr _ _ _); refine st_y (y_field tabs rfl rfl rfl) rfl ?_) | (show oA (.load _ _); first | refine st_y (y_loadb 0 tabs rfl rfl rfl rfl) rfl ?_ | refine st_y (y_loadb 1 tabs rfl rfl rfl rfl) rfl ?_ | refine st_y (y_loadb 2 tabs rfl rfl rfl rfl) rfl ?_ | refine st_y (y_load tabs rfl rfl (hc_blk 2 rfl rfl)) rfl ?_) | (show oA (.unOp _ _ _); refine st_y (y_notd rfl) rfl ?_) | (show oA (.call _); first | (refine m_call (ent_of Tryz.func41 kr rfl) rfl rfl (fun w c0 => impl_IsMorphism_ok (a := a) (b := b) (ms := fs) (c0.rd h0) (c0.rd h1) (c0.rd h2) (c0.rd h3) (c0.rd k0) (c0.rd k1) (c0.rd k2) (c0.rd k3) (c0.rd hf)) ?_; rintro v H' ⟨rfl, rfl⟩) | (refine m_call (ent_of Tryz.func41 kr rfl) rfl rfl (fun w c0 => impl_IsMorphism_ok (a := b) (b := c) (ms := gs) (c0.rd k0) (c0.rd k1) (c0.rd k2) (c0.rd k3) (c0.rd l0) (c0.rd l1) (c0.rd l2) (c0.rd l3) (c0.rd hg)) ?_; rintro v H' ⟨rfl, rfl⟩) | (refine m_call (ent_of Tryz.func150 kr rfl) rfl rfl (fun w c0 => composed_ok (c0.rd hf) (c0.rd hg) (cmp_of hX.1 hY.1) (by have := AreP.ml hX.1; omega)) ?_; rintro v H' ⟨am, cm, rfl, hs, rfl⟩)) | (show oA (.pick _ _ _); first | refine st_y (y_pickt rfl aS rfl) rfl ?_ | refine st_y (y_pickf rfl aS rfl) rfl ?_) | (show oA (.box _ _); refine m_box rfl rfl (fun b1 hb1 => ?_)) | refine st_gfy rfl rfl aS ?_ | refine st_gfn rfl rfl aS rfl ?_ | refine st_gd rfl rfl (fun h => ?_) (fun h => ?_)) | (show oN; refine c_nil (x_then ?_)) | (show oC; first | refine c_seq ?_ | refine c_region ?_ | refine c_skip (x_then ?_) | refine c_ret ?_ | refine c_true rfl ?_ | refine c_iff rfl nN ?_) | (show AT _ _ _ _; refine x_then_ret ?_))
    all_goals first | exact absurd hX aS | exact absurd hY aS | skip
    exact x_ret2 Tryz.results38 (res_tmp rfl) (res_tmp rfl) (fun w' c' => ⟨_, _, rfl, ⟨am, cm, rfl, hs, rfl⟩, c'.sub (.cons_cons _ (List.nil_sublist _))⟩)
  · rw [comL, if_neg hC, decide_eq_false hC]
    refine fn_enter Tryz.func38 rfl Tryz.ntmps38 rfl ?_
    repeat' (first | (show oL; first | (show oA (.move _); refine st_y (y_move rfl) rfl ?_) | (show oA (.assign _); refine st_y (y_assign rfl) rfl ?_) | (show oA (.fieldAddr _ _ _); refine st_y (y_field tabs rfl rfl rfl) rfl ?_) | (show oA (.load _ _); first | refine st_y (y_loadb 0 tabs rfl rfl rfl rfl) rfl ?_ | refine st_y (y_loadb 1 tabs rfl rfl rfl rfl) rfl ?_ | refine st_y (y_loadb 2 tabs rfl rfl rfl rfl) rfl ?_ | refine st_y (y_load tabs rfl rfl (hc_blk 2 rfl rfl)) rfl ?_) | (show oA (.unOp _ _ _); refine st_y (y_notd rfl) rfl ?_) | (show oA (.call _); first | (refine m_call (ent_of Tryz.func41 kr rfl) rfl rfl (fun w c0 => impl_IsMorphism_ok (a := a) (b := b) (ms := fs) (c0.rd h0) (c0.rd h1) (c0.rd h2) (c0.rd h3) (c0.rd k0) (c0.rd k1) (c0.rd k2) (c0.rd k3) (c0.rd hf)) ?_; rintro v H' ⟨rfl, rfl⟩) | (refine m_call (ent_of Tryz.func41 kr rfl) rfl rfl (fun w c0 => impl_IsMorphism_ok (a := b) (b := c) (ms := gs) (c0.rd k0) (c0.rd k1) (c0.rd k2) (c0.rd k3) (c0.rd l0) (c0.rd l1) (c0.rd l2) (c0.rd l3) (c0.rd hg)) ?_; rintro v H' ⟨rfl, rfl⟩)) | (show oA (.pick _ _ _); first | refine st_y (y_pickt rfl aS rfl) rfl ?_ | refine st_y (y_pickf rfl aS rfl) rfl ?_) | (show oA (.box _ _); refine m_box rfl rfl (fun b1 hb1 => ?_)) | refine st_gfy rfl rfl aS ?_ | refine st_gfn rfl rfl aS rfl ?_ | refine st_gd rfl rfl (fun h => ?_) (fun h => ?_)) | (show oN; refine c_nil (x_then ?_)) | (show oC; first | refine c_seq ?_ | refine c_region ?_ | refine c_skip (x_then ?_) | refine c_ret ?_ | refine c_true rfl ?_ | refine c_ifnd rfl (fun h => ?_) (fun h => ?_)) | (show AT _ _ _ _; refine x_then_ret ?_))
    all_goals first | exact (hC ⟨by first | assumption | exact Decidable.not_not.1 aS, by first | assumption | exact Decidable.not_not.1 aS⟩).elim | skip
    all_goals exact x_ret2 Tryz.results38 (res_tmp rfl) (res_tmp rfl) (fun w' c' => ⟨_, _, rfl, ⟨none, 0, rfl, .inl rfl, rfl⟩, Hp.nilp _ _ (c'.sub (List.nil_sublist _))⟩)
theorem spec_ComposeMorphisms_ok {w : World} {a b c : Rp} {fs gs : List Mat} {e e' e3 e4 e5 : Nat} {u0 u1 u2 u3 v0 v1 v2 v3 z0 z1 z2 z3 uf ug : Value} (h0 : Rd w (iT a.q.2.1) u0) (h1 : Rd w (iT a.q.2.2) u1) (h2 : Rd w (iT a.d) u2) (h3 : Rd w (matsT e a.m) u3) (k0 : Rd w (iT b.q.2.1) v0) (k1 : Rd w (iT b.q.2.2) v1) (k2 : Rd w (iT b.d) v2) (k3 : Rd w (matsT e' b.m) v3) (l0 : Rd w (iT c.q.2.1) z0) (l1 : Rd w (iT c.q.2.2) z1) (l2 : Rd w (iT c.d) z2) (l3 : Rd w (matsT e3 c.m) z3) (hf : Rd w (matsT e4 fs) uf) (hg : Rd w (matsT e5 gs) ug) :
    Does Tryz.prog 39 [.agg #[iV a.p, iV a.q.1, u0, u1, u2, u3], .agg #[iV b.p, iV b.q.1, v0, v1, v2, v3], .agg #[iV c.p, iV c.q.1, z0, z1, z2, z3], uf, ug] w (GivesMsB (comL a b c fs gs) (decide (ComP a b c fs gs))) := by
  by_cases hC : ComP a b c fs gs
  · rw [comL, if_pos hC, decide_eq_true hC]
    have hX := hC.1
    have hY := hC.2
    obtain ⟨hF, hlen, hat⟩ := cmp_of hX.1 hY.1
    have hml := AreP.ml hX.1
    have hf0 := hf
    have hg0 := hg
    obtain ⟨af, cf, rfl, hsf, _, _, hgf⟩ := rd_mats hf
    obtain ⟨ag, cg, rfl, hsg, _, _, hgg⟩ := rd_mats hg
    refine fn_enter Tryz.func39 rfl Tryz.ntmps39 rfl ?_
    repeat' (first | (show oL; first | (show oA (.move _); refine st_y (y_move rfl) rfl ?_) | (show oA (.assign _); refine st_y (y_assign rfl) rfl ?_) | (show oA (.load _ _); first | refine st_y (y_loadb 1 tabs rfl rfl rfl rfl) rfl ?_ | refine st_y (y_loadb 2 tabs rfl rfl rfl rfl) rfl ?_ | refine st_y (y_loadb 3 tabs rfl rfl rfl rfl) rfl ?_) | (show oA (.unOp _ _ _); refine st_y (y_notd rfl) rfl ?_) | (show oA (.call _); first | (refine m_call (ent_of Tryz.func46 kr rfl) rfl rfl (fun w c0 => spec_IsMorphism_ok (a := a) (b := b) (ms := fs) (c0.rd h0) (c0.rd h1) (c0.rd h2) (c0.rd h3) (c0.rd k0) (c0.rd k1) (c0.rd k2) (c0.rd k3) (c0.rd hf0)) ?_; rintro v H' ⟨rfl, rfl⟩) | (refine m_call (ent_of Tryz.func46 kr rfl) rfl rfl (fun w c0 => spec_IsMorphism_ok (a := b) (b := c) (ms := gs) (c0.rd k0) (c0.rd k1) (c0.rd k2) (c0.rd k3) (c0.rd l0) (c0.rd l1) (c0.rd l2) (c0.rd l3) (c0.rd hg0)) ?_; rintro v H' ⟨rfl, rfl⟩)) | (show oA (.pick _ _ _); first | refine st_y (y_pickt rfl aS rfl) rfl ?_ | refine st_y (y_pickf rfl aS rfl) rfl ?_) | (show oA (.box _ _); refine m_box rfl rfl (fun b1 hb1 => ?_)) | (show oA (.buildSlice _ _ _); refine m_build0 tabs rfl rfl (fun g hg => ?_)) | refine st_gfy rfl rfl aS ?_ | refine st_gfn rfl rfl aS rfl ?_ | refine st_gd rfl rfl (fun h => ?_) (fun h => ?_)) | (show oN; refine c_nil (x_then ?_)) | (show oC; first | refine c_seq ?_ | refine c_region ?_ | refine c_skip (x_then ?_) | refine c_block ?_ | refine c_ret ?_ | refine c_true rfl ?_ | refine c_iff rfl nN ?_) | (show AT _ _ _ _; refine x_then_ret ?_))
    all_goals first | exact absurd hX aS | exact absurd hY aS | skip
    rename_i b3 hb3 b2 hb2
    refine c_loopH (α := Nat × Option Addr × Nat) [3, 4, 5] (fun s => [(12, .slice s.2.1 s.1 s.2.2), (13, .int .i64 s.1)]) (fun s => s.1 ≤ fs.length) (fun s => [.own (matsT 47 (tabM (cmpM a.p fs gs) s.1)) (.slice s.2.1 s.1 s.2.2), .blk b3 #[iV a.p, iV a.q.1, u0, u1, u2, u3] 60]) (fun s => fs.length - s.1) (0, some ⟨g, 0, none⟩, 0) rfl sB ?_ ?_ ?_
    · exact Nat.zero_le _
    · exact fun w' c' => c'.sub sL
    · rintro ⟨i, al, cl⟩ hi
      simp only at hi ⊢
      by_cases hin : i < fs.length
      · obtain ⟨R, N, C, f, g, hfi, hgi, hR, hN, hCC, ⟨f1, f2, f3, f4⟩, ⟨g1, g2, g3, g4⟩, hz⟩ := hat i hin
        obtain ⟨a1, c1, f5, f6, f7, f8⟩ := hgf i f hfi
        obtain ⟨a2, c2, g5, g6, g7, g8⟩ := hgg i g hgi
        rw [f1] at f5; rw [f2] at f6; rw [f3] at f7 f8; rw [mk_length] at f7 f8
        rw [g1] at g5; rw [g2] at g6; rw [g3] at g7 g8; rw [mk_length] at g7 g8
        repeat' (first | (show oL; first | (show oA (.move _); refine st_y (y_move rfl) rfl ?_) | (show oA (.binOp _ _ _ _ _); refine st_y (y_lss rfl rfl) rfl ?_) | (show oA (.call _); refine st_y (y_len tabs rfl rfl) rfl ?_)) | (show oN; refine c_nil (x_then ?_)) | (show oC; first | refine c_seq ?_ | refine c_region ?_ | refine c_skip (x_then ?_) | refine c_block ?_ | refine c_ift rfl aO ?_))
        refine c_all (Hp [] w [.blk b3 #[iV a.p, iV a.q.1, u0, u1, u2, u3] 60]) kr (fun _ c => Hp.drew c) ?_
        refine h_take 0 rfl kr kr kr (by exact y_move rfl) rfl (fun w c => by exact c.drop) ?_
        refine h_take 1 rfl kr kr kr (by exact y_field tabs rfl rfl rfl) rfl (fun w c => by exact c.drop) ?_
        refine h_take 2 rfl kr kr kr (by exact y_load tabs rfl rfl (hc_blk 0 rfl rfl)) rfl (fun w c => by exact c.drop) ?_
        refine h_take 3 rfl kr kr kr (by exact y_move rfl) rfl (fun w c => by exact c.drop) ?_
        refine h_take 4 rfl kr kr kr (by exact y_move rfl) rfl (fun w c => by exact c.drop) ?_
        refine h_take 5 rfl kr kr kr (by exact y_ixa tabs rfl rfl rfl hsg om om) rfl (fun w c => by exact c.drop) ?_
        refine h_take 6 rfl kr kr kr (by exact y_load3 tabs rfl rfl (hc_w0 g5) (hc_w0 g6) (hc_w0 g7)) rfl (fun w c => by exact c.drop) ?_
        refine h_take 7 rfl kr kr kr (by exact y_move rfl) rfl (fun w c => by exact c.drop) ?_
        refine h_take 8 rfl kr kr kr (by exact y_move rfl) rfl (fun w c => by exact c.drop) ?_
        refine h_take 9 rfl kr kr kr (by exact y_ixa tabs rfl rfl rfl hsf om om) rfl (fun w c => by exact c.drop) ?_
        refine h_take 10 rfl kr kr kr (by exact y_load3 tabs rfl rfl (hc_w0 f5) (hc_w0 f6) (hc_w0 f7)) rfl (fun w c => by exact c.drop) ?_
        refine h_only 11 rfl kr ?_
        first | (refine m_build1 tabs (us := [iV R, iV C, .slice a7 (R * C) c7]) rfl rfl rfl rfl (by decide) rfl (fun g5 hg5 => ?_)) | (refine m_call (ent_of Tryz.func151 kr rfl) rfl rfl (fun w c => l3Multiply_ok (c.rd g8) (c.rd f8) hF om om om g4 f4) ?_; rintro v H' ⟨a7, c7, rfl, hs7, rfl⟩) | (refine m_push1 [iV R, iV C] 0 0 tabs (m' := i) rfl rfl rfl rfl rfl rfl rfl (by rw [flatMap_length matT_length, tabM_length]) (by rw [flatMap_length matT_length, tabM_length]; omega) (by decide) rfl rfl (fun a10 c10 => ?_))
        refine c_nil (x_one (h_keep (fun w c => by exact c.drop.drop) ?_))
        refine h_only 12 rfl kr ?_
        first | (refine m_build1 tabs (us := [iV R, iV C, .slice a7 (R * C) c7]) rfl rfl rfl rfl (by decide) rfl (fun g5 hg5 => ?_)) | (refine m_call (ent_of Tryz.func151 kr rfl) rfl rfl (fun w c => l3Multiply_ok (c.rd g8) (c.rd f8) hF om om om g4 f4) ?_; rintro v H' ⟨a7, c7, rfl, hs7, rfl⟩) | (refine m_push1 [iV R, iV C] 0 0 tabs (m' := i) rfl rfl rfl rfl rfl rfl rfl (by rw [flatMap_length matT_length, tabM_length]) (by rw [flatMap_length matT_length, tabM_length]; omega) (by decide) rfl rfl (fun a10 c10 => ?_))
        refine c_nil (x_one (h_keep (fun w c => by exact c.sub sL) ?_))
        refine h_only 13 rfl kr ?_
        first | (refine m_build1 tabs (us := [iV R, iV C, .slice a7 (R * C) c7]) rfl rfl rfl rfl (by decide) rfl (fun g5 hg5 => ?_)) | (refine m_call (ent_of Tryz.func151 kr rfl) rfl rfl (fun w c => l3Multiply_ok (c.rd g8) (c.rd f8) hF om om om g4 f4) ?_; rintro v H' ⟨a7, c7, rfl, hs7, rfl⟩) | (refine m_push1 [iV R, iV C] 0 0 tabs (m' := i) rfl rfl rfl rfl rfl rfl rfl (by rw [flatMap_length matT_length, tabM_length]) (by rw [flatMap_length matT_length, tabM_length]; omega) (by decide) rfl rfl (fun a10 c10 => ?_))
        refine c_nil (x_one (h_keep (fun w c => by exact c.drop) ?_))
        refine h_take 14 rfl kr kr kr (by exact y_assign rfl) rfl (fun w c => by exact c.drop) ?_
        refine h_end kr ?_
        repeat' (first | (show oL; first | (show oA (.move _); refine st_y (y_move rfl) rfl ?_) | (show oA (.assign _); refine st_y (y_assign rfl) rfl ?_) | (show oA (.binOp _ _ _ _ _); refine st_y (y_add rfl rfl om) rfl ?_)) | (show oN; refine c_nil (x_then ?_)) | (show oC; refine c_region ?_) | (show AT _ _ _ _; first | refine x_then ?_ | refine x_blk ?_))
        refine x_nx (i + 1, a10, c10) sB (by simp only; omega) (fun w' c' => ?_) (by simp only; omega)
        rw [tabM_next hz] at c'
        exact c'
      · have : i = fs.length := by omega
        subst this
        refine AT.fact (mats_sl 0 rfl) (fun hsl => ?_)
        rw [tabM_length] at hsl
        repeat' (first | (show oL; first | (show oA (.move _); refine st_y (y_move rfl) rfl ?_) | (show oA (.assign _); refine st_y (y_assign rfl) rfl ?_) | (show oA (.binOp _ _ _ _ _); refine st_y (y_lss rfl rfl) rfl ?_) | (show oA (.call _); refine st_y (y_len tabs rfl rfl) rfl ?_)) | (show oN; refine c_nil (x_then ?_)) | (show oC; first | refine c_seq ?_ | refine c_region ?_ | refine c_ret ?_ | refine c_exit ?_ | refine c_iff rfl nN ?_) | (show AT _ _ _ _; first | refine x_then ?_ | refine x_then_exit ?_ | refine x_blk_exit rfl ?_))
        exact x_ret2 Tryz.results39 (res_tmp rfl) (res_tmp rfl) (fun w' c' => ⟨_, _, rfl, ⟨al, cl, by rw [cmpL, tabM_length], by rw [cmpL, tabM_length]; exact hsl, by rw [cmpL, tabM_length]⟩, c'.sub (.cons_cons _ (List.nil_sublist _))⟩)
  · rw [comL, if_neg hC, decide_eq_false hC]
    refine fn_enter Tryz.func39 rfl Tryz.ntmps39 rfl ?_
    repeat' (first | (show oL; first | (show oA (.move _); refine st_y (y_move rfl) rfl ?_) | (show oA (.assign _); refine st_y (y_assign rfl) rfl ?_) | (show oA (.load _ _); first | refine st_y (y_loadb 1 tabs rfl rfl rfl rfl) rfl ?_ | refine st_y (y_loadb 2 tabs rfl rfl rfl rfl) rfl ?_ | refine st_y (y_loadb 3 tabs rfl rfl rfl rfl) rfl ?_) | (show oA (.unOp _ _ _); refine st_y (y_notd rfl) rfl ?_) | (show oA (.call _); first | (refine m_call (ent_of Tryz.func46 kr rfl) rfl rfl (fun w c0 => spec_IsMorphism_ok (a := a) (b := b) (ms := fs) (c0.rd h0) (c0.rd h1) (c0.rd h2) (c0.rd h3) (c0.rd k0) (c0.rd k1) (c0.rd k2) (c0.rd k3) (c0.rd hf)) ?_; rintro v H' ⟨rfl, rfl⟩) | (refine m_call (ent_of Tryz.func46 kr rfl) rfl rfl (fun w c0 => spec_IsMorphism_ok (a := b) (b := c) (ms := gs) (c0.rd k0) (c0.rd k1) (c0.rd k2) (c0.rd k3) (c0.rd l0) (c0.rd l1) (c0.rd l2) (c0.rd l3) (c0.rd hg)) ?_; rintro v H' ⟨rfl, rfl⟩)) | (show oA (.pick _ _ _); first | refine st_y (y_pickt rfl aS rfl) rfl ?_ | refine st_y (y_pickf rfl aS rfl) rfl ?_) | (show oA (.box _ _); refine m_box rfl rfl (fun b1 hb1 => ?_)) | (show oA (.buildSlice _ _ _); refine m_build0 tabs rfl rfl (fun gq hgq => ?_)) | refine st_gfy rfl rfl aS ?_ | refine st_gfn rfl rfl aS rfl ?_ | refine st_gd rfl rfl (fun h => ?_) (fun h => ?_)) | (show oN; refine c_nil (x_then ?_)) | (show oC; first | refine c_seq ?_ | refine c_region ?_ | refine c_skip (x_then ?_) | refine c_block ?_ | refine c_ret ?_ | refine c_true rfl ?_ | refine c_ifnd rfl (fun h => ?_) (fun h => ?_)) | (show AT _ _ _ _; refine x_then_ret ?_))
    all_goals first | exact (hC ⟨by first | assumption | exact Decidable.not_not.1 aS, by first | assumption | exact Decidable.not_not.1 aS⟩).elim | skip
    all_goals exact x_ret2 Tryz.results39 (res_tmp rfl) (res_tmp rfl) (fun w' c' => ⟨_, _, rfl, ⟨_, 0, rfl, .inl rfl, rfl⟩, c'.sub (.cons_cons _ (List.nil_sublist _))⟩)
end Go.Proofs.YtijjkfbkihgfgaaGreat
