import Derived.Test.YtijjkfbkihgfgaaGreatLCqsu
import Derived.Test.YtijjkfbkihgfgaaGreatSpbqsu
namespace Go.Proofs.YtijjkfbkihgfgaaGreat
open Go.Lg Go.Proofs Go.RowKit
attribute [local irreducible] Code.wp wpList bodyPost Exit.then Exit.inBlock Hp Again Calls Y AT ResV QT Qn QI wpAny wpAnyQ
set_option maxRecDepth 20000
set_option maxHeartbeats 4000000

def vF (v : List Int) : Nat → Nat → Int := fun i _ => v.getD i 0
abbrev sysF (C : Nat) (f : Nat → Nat → Int) (v : List Int) : Nat → Nat → Int := besF C f (vF v)
def solG (g : Nat → Nat → Int) (C : Nat) (piv : List Int) : Nat → Nat → Int
  | 0 => fun _ => 0
  | n + 1 => fun q => if q = (piv.getD n 0).toNat then g n C else solG g C piv n q
def solX (p : Int) (R C : Nat) (f : Nat → Nat → Int) (v : List Int) : List Int :=
  if (C : Int) ∈ (redTo p R (sysF C f v) (C + 1)).2 then [] else mkv C (solG (redTo p R (sysF C f v) (C + 1)).1 C (redTo p R (sysF C f v) (C + 1)).2 (redTo p R (sysF C f v) (C + 1)).2.length)
def solB (p : Int) (R C : Nat) (f : Nat → Nat → Int) (v : List Int) : Bool := !decide ((C : Int) ∈ (redTo p R (sysF C f v) (C + 1)).2)
abbrev GivesIB (x : List Int) (b : Bool) (r : Value) (H : List HE) : Prop := ∃ a c, r = .tuple #[.slice a x.length c, .bool b] ∧ SA a x.length ∧ H = [.own (iT x) (.slice a x.length c)]
theorem inF_sys {p : Int} {R C : Nat} {f : Nat → Nat → Int} {v : List Int} (hf : inF p R C f) (hv : InP 0 (p - 1) v) (hl : v.length = R) : inF p R (C + 1) (sysF C f v) := inF_bes hf (fun i j hi _ => by
  have := inP_get hv (i := i) om
  unfold vF; omega)
def fillF (C : Nat) (f h : Nat → Nat → Int) (i j : Nat) : Nat → Nat → Int := fun a b => if a < i then besF C f h a b else if a = i ∧ b < j then f a b else 0
theorem fillF_next {C i j : Nat} {f h : Nat → Nat → Int} : upd (fillF C f h i j) i j (f i j) = fillF C f h i (j + 1) := by
  funext a b
  unfold upd fillF
  grind
theorem fillF_row {R C i : Nat} {f h : Nat → Nat → Int} {v : Int} (hv : v = h i 0) : mk R (C + 1) (upd (fillF C f h i C) i C v) = mk R (C + 1) (fillF C f h (i + 1) 0) := mk_ext (fun a b ha hb => by
  unfold upd fillF besF
  subst hv
  by_cases h1 : a < i
  · grind
  · by_cases h2 : a = i
    · subst h2
      by_cases h3 : b = C
      · subst h3; simp
      · have : b < C := by omega
        simp [h3, this]
    · have h3 : ¬ a < i + 1 := by omega
      simp [h1, h2, h3])
theorem l4Solve_ok {w : World} {p : Int} {R C : Nat} {f : Nat → Nat → Int} {u u' : Value} {v : List Int} (hr : Rd w (iT (mk R C f)) u) (hr' : Rd w (iT v) u') (hF : FieldP p) (hR : R ≤ 512) (hC : C ≤ 512) (hin : inF p R C f) (hv : InP 0 (p - 1) v) (hl : v.length = R) :
    Does Tryz.prog 211 [iV p, .agg #[iV R, iV C, u], u'] w (GivesIB (solX p R C f v) (solB p R C f v)) := by
  have hsy := inF_sys hin hv hl
  have hpv := redTo_piv (p := p) (R := R) (f := sysF C f v) (C + 1)
  have hpl := redTo_in (f := sysF C f v) (p := p) (R := R) (C := C + 1) (by have := fieldP_pos hF; omega) hsy (C + 1)
  obtain ⟨av, cv, rfl, hsv, _, _, hgv⟩ := hr'.ints
  obtain ⟨am, cm, rfl, hsm, _⟩ := rd_mk hr
  rw [hl] at hsv hgv ⊢
  have hRC := rc_le (R := R) (C := C + 1) om om
  have hRC0 := rc_le (R := R) (C := C) om om
  refine fn_enter Tryz.func211 rfl Tryz.ntmps211 rfl ?_
  repeat' (first | (show oL; first | refine sAs rfl rfl ?_ | refine sFd tabs rfl rfl rfl rfl ?_ | refine sLd 0 tabs rfl rfl rfl rfl rfl ?_ | (show oA (.binOp _ _ _ _ _); refine st_y (y_addn (a := C) (b := 1) rfl rfl rfl rfl om) rfl ?_) | (show oA (.call _); (refine m_call (ent_of Tryz.func172 kr rfl) rfl rfl (fun w c => l3Zero_ok (R := R) (C := C + 1) om om) ?_; rintro v H' ⟨a, c, rfl, hs, rfl⟩)) | (show oA (.store _ _ _); refine m_storeb 0 tabs rfl rfl rfl rfl rfl rfl rfl ?_) | (show oA (.box _ _); refine m_box rfl rfl (fun b4 hb4 => ?_)) | (show oA (.alloc _); refine m_alloc tabs rfl rfl (fun b8 hb8 => ?_))) | refine xNt ?_ | (show oC; first | refine c_seq ?_ | refine c_region ?_ | refine c_block ?_))
  refine c_loopH (α := Nat) [0, 2, 4, 8] (fun i => [(9, .int .i64 i)]) (fun i => i ≤ R) (fun i => [.blk b8 #[iV R, iV (C + 1 : Nat), .slice a (R * (C + 1)) c] 47, .own (iT (mk R (C + 1) (fillF C f (vF v) i 0))) (.slice a (R * (C + 1)) c), .blk b4 #[iV R, iV C, .slice am (R * C) cm] 47]) (fun i => R - i) 0 rfl sB ?_ ?_ ?_
  · omega
  · intro w' c'
    have e0 : fillF C f (vF v) 0 0 = (fun _ _ => 0) := by funext a b; simp [fillF]
    rw [e0]
    exact c'
  · intro i hi
    by_cases hiR : i < R
    · repeat' (first | (show oL; first | refine sMv rfl rfl ?_ | refine sAs rfl rfl ?_ | refine sFd tabs rfl rfl rfl rfl ?_ | refine sLd 2 tabs rfl rfl rfl rfl rfl ?_ | refine sLs rfl rfl rfl ?_) | refine xNt ?_ | (show oC; first | refine c_seq ?_ | refine c_region ?_ | refine c_skip (x_then ?_) | refine c_block ?_ | refine c_ift rfl aO ?_))
      refine c_loopH (α := Nat) [0, 2, 4, 8, 9] (fun j => [(10, .int .i64 j)]) (fun j => j ≤ C) (fun j => [.blk b8 #[iV R, iV (C + 1 : Nat), .slice a (R * (C + 1)) c] 47, .own (iT (mk R (C + 1) (fillF C f (vF v) i j))) (.slice a (R * (C + 1)) c), .blk b4 #[iV R, iV C, .slice am (R * C) cm] 47]) (fun j => C - j) 0 rfl sB ?_ ?_ ?_
      · omega
      · exact fun w' c' => c'
      · intro j hj
        by_cases hjC : j < C
        · have hc1 := cell_lt (C := C + 1) hiR (show j < C + 1 by omega)
          have hc2 := cell_lt (C := C) hiR hjC
          repeat' (first | (show oL; first | refine sMv rfl rfl ?_ | refine sAs rfl rfl ?_ | refine sFd tabs rfl rfl rfl rfl ?_ | refine sLd 2 tabs rfl rfl rfl rfl rfl ?_ | (show oA (.indexAddr _ _ _); refine st_y (y_ix1 tabs (j := i * (C + 1) + j) rfl rfl rfl hs rfl hc1) rfl ?_) | (show oA (.binOp _ _ _ _ _); first | refine sAd rfl rfl om rfl ?_ | refine sLs rfl rfl rfl ?_) | (show oA (.store _ _ _); refine m_storeo 1 tabs rfl rfl rfl rfl (by rw [mk_length]; exact hc1) ?_)) | (show oN; first | refine c_nil (x_then ?_) | refine c_nil ?_) | (show oC; first | refine c_tailR 18 kr kr kr kr kr kr (fun _ c => Hp.drew c) ?_ | refine c_seq ?_ | refine c_region ?_ | refine c_skip (x_then ?_) | refine c_block ?_ | refine c_ift rfl aO ?_) | (show QT _ _ _ _ _ _ (_ :: _); first | refine qMv rfl rfl ?_ | refine qFd tabs rfl rfl rfl rfl ?_ | (show qA (.load _ _); first | refine q_y (y_load tabs rfl rfl (hc_rdk (RdOut.of_rd hr) hiR hjC)) rfl ?_ | refine qLd 0 tabs rfl rfl rfl rfl rfl ?_ | refine qLd 2 tabs rfl rfl rfl rfl rfl ?_) | (show qA (.indexAddr _ _ _); refine q_y (y_ix1 tabs (j := i * C + j) rfl rfl rfl hsm rfl hc2) rfl ?_) | (show qA (.binOp _ _ _ _ _); first | refine q_y (y_muln rfl rfl rfl rfl om) rfl ?_ | refine q_y (y_addn (b := j) rfl rfl rfl rfl om) rfl ?_)) | (show QT _ _ _ _ _ _ []; refine q_nil ?_) | (show AT _ _ _ _; first | refine x_then ?_ | refine x_blk ?_))
          refine x_nx (j + 1) sB om (fun w' c' => ?_) om
          simp only [List.set_cons_succ, List.set_cons_zero] at c'
          rw [mk_set hiR om, fillF_next] at c'
          exact c'
        · have : j = C := by omega
          subst this
          have hc1 := cell_lt (C := j + 1) hiR (show j < j + 1 by omega)
          repeat' (first | (show oL; first | refine sMv rfl rfl ?_ | refine sAs rfl rfl ?_ | refine sFd tabs rfl rfl rfl rfl ?_ | refine sLd 2 tabs rfl rfl rfl rfl rfl ?_ | (show oA (.indexAddr _ _ _); refine st_y (y_ix1 tabs (j := i * (j + 1) + j) rfl rfl rfl hs rfl hc1) rfl ?_) | (show oA (.binOp _ _ _ _ _); first | refine sAd rfl rfl om rfl ?_ | refine sLs rfl rfl rfl ?_) | (show oA (.store _ _ _); refine m_storeo 1 tabs rfl rfl rfl rfl (by rw [mk_length]; exact hc1) ?_)) | (show oN; first | refine c_nil (x_then ?_) | refine c_nil ?_) | (show oC; first | refine c_tailR 13 kr kr kr kr kr kr (fun _ c => Hp.drew c) ?_ | refine c_seq ?_ | refine c_region ?_ | refine c_exit ?_ | refine c_iff rfl nN ?_) | (show QT _ _ _ _ _ _ (_ :: _); first | refine qMv rfl rfl ?_ | refine qFd tabs rfl rfl rfl rfl ?_ | (show qA (.load _ _); first | refine q_y (y_load tabs rfl rfl (hc_w0 (hgv i hiR))) rfl ?_ | refine qLd 0 tabs rfl rfl rfl rfl rfl ?_ | refine qLd 2 tabs rfl rfl rfl rfl rfl ?_) | (show qA (.indexAddr _ _ _); refine q_y (y_ix1 tabs (j := i) rfl rfl rfl hsv rfl hiR) rfl ?_) | (show qA (.binOp _ _ _ _ _); first | refine q_y (y_muln rfl rfl rfl rfl om) rfl ?_ | refine q_y (y_addn (b := j) rfl rfl rfl rfl om) rfl ?_)) | (show QT _ _ _ _ _ _ []; refine q_nil ?_) | (show AT _ _ _ _; first | refine x_then ?_ | refine x_then_exit ?_ | refine x_blk_exit rfl ?_ | refine x_blk ?_))
          refine x_nx (i + 1) sB om (fun w' c' => ?_) om
          simp only [List.set_cons_succ, List.set_cons_zero] at c'
          rw [mk_set hiR om, fillF_row (v := v.getD i 0) rfl] at c'
          exact c'
    · have : i = R := by omega
      subst this
      have e0 : mk i (C + 1) (fillF C f (vF v) i 0) = mk i (C + 1) (sysF C f v) := mk_ext (fun a b ha hb => by unfold fillF; rw [if_pos ha])
      rw [e0]
      repeat' (first | (show oL; first | refine sMv rfl rfl ?_ | refine sAs rfl rfl ?_ | refine sFd tabs rfl rfl rfl rfl ?_ | (show oA (.load _ _); first | refine sLd 2 tabs rfl rfl rfl rfl rfl ?_ | refine sLd 5 tabs rfl rfl rfl rfl rfl ?_ | refine sLb 0 tabs rfl rfl rfl rfl rfl ?_) | refine sLs rfl rfl rfl ?_ | (show oA (.call _); first | (refine m_call (ent_of Tryz.func222 kr rfl) rfl rfl (fun w c => l4ReduceK_ok (c.own_rd (i := 1) rfl) hF om om hsy) ?_; rintro v H' ⟨a2, c2, a', c', rfl, hs2, hs', rfl⟩) | (refine m_call (ent_of Tryz.func197 kr rfl) rfl rfl (fun w c => l4Has_ok (c.own_rd (i := 1) rfl)) ?_; rintro v H' ⟨rfl, rfl⟩)) | (show oA (.extract _ _); refine st_y (y_ext rfl rfl) rfl ?_) | (show oA (.store _ _ _); refine m_storeb 0 tabs rfl rfl rfl rfl rfl rfl rfl ?_) | (show oA (.alloc _); refine m_alloc tabs rfl rfl (fun b11 hb11 => ?_)) | (show oA (.makeSlice _ _ _); refine m_maken tabs (m := C) rfl rfl rfl rfl om rfl (fun gg hgg => ?_)) | (show oA (.buildSlice _ _ _); refine m_build0 tabs rfl rfl (fun g hg => ?_))) | refine xNt ?_ | (show oC; first | refine c_seq ?_ | refine c_region ?_ | refine c_skip (x_then ?_) | refine c_block ?_ | refine c_ret ?_ | refine c_exit ?_ | refine c_iff rfl nN ?_ | refine c_if rfl (fun h => ?_) (fun h => ?_)) | (show AT _ _ _ _; first | refine x_then ?_ | refine x_then_ret ?_ | refine x_then_exit ?_ | refine x_blk_exit rfl ?_))
      · rw [solX, if_pos aS, solB, decide_eq_true aS]
        exact x_ret2 Tryz.results211 (res_tmp rfl) (res_tmp rfl) (fun w' c' => ⟨_, _, rfl, ⟨_, 0, rfl, .inl rfl, rfl⟩, c'.sub (.cons_cons _ (List.nil_sublist _))⟩)
      · generalize hre : redTo p i (sysF C f v) (C + 1) = red at *
        obtain ⟨g, piv⟩ := red
        obtain ⟨hgi, hpl⟩ := hpl
        simp only at hpv hpl hs2 hs' hgi h ⊢
        have hX : solX p i C f v = mkv C (solG g C piv piv.length) := by rw [solX, hre, if_neg h]
        have hB : solB p i C f v = true := by rw [solB, hre, decide_eq_false h]; rfl
        rw [hX, hB, mkv_zero]
        refine c_loopH (α := Nat) [4, 11, 12, 13] (fun n => [(14, .int .i64 n)]) (fun n => n ≤ piv.length) (fun n => [.own (iT (mkv C (solG g C piv n))) (.slice (some ⟨gg, 0, none⟩) C C), .blk b11 #[iV i, iV (C + 1 : Nat), .slice a2 (i * (C + 1)) c2] 47, .own (iT piv) (.slice a' piv.length c'), .own (iT (mk i (C + 1) g)) (.slice a2 (i * (C + 1)) c2), .blk b4 #[iV i, iV C, .slice am (i * C) cm] 47]) (fun n => piv.length - n) 0 rfl sB ?_ ?_ ?_
        · omega
        · exact fun w' c' => c'.sub sL
        · intro n hn
          by_cases hin' : n < piv.length
          · have hx : piv[n]? = some (piv.getD n 0) := getD_some hin'
            have hb := hpv _ (List.mem_of_getElem? hx)
            have hkC : piv.getD n 0 ≠ (C : Int) := fun e => h (by rw [← e]; exact List.mem_of_getElem? hx)
            have hk0 : (piv.getD n 0).toNat < C := by omega
            have ek : piv.getD n 0 = (((piv.getD n 0).toNat : Nat) : Int) := by omega
            have hnR : n < i := by omega
            have hC1 : C < C + 1 := by omega
            have hc1 := cell_lt (C := C + 1) hnR hC1
            repeat' (first | (show oL; first | refine sMv rfl rfl ?_ | refine sAs rfl rfl ?_ | (show oA (.indexAddr _ _ _); refine st_y (y_ix1 tabs (j := (piv.getD n 0).toNat) rfl rfl rfl .mk ek hk0) rfl ?_) | (show oA (.binOp _ _ _ _ _); first | refine sAd rfl rfl om rfl ?_ | refine sLs rfl rfl rfl ?_) | refine sLn tabs rfl rfl rfl ?_ | (show oA (.store _ _ _); refine m_storeo 0 tabs rfl rfl rfl rfl (by rw [mkv_length]; exact hk0) ?_)) | (show oN; first | refine c_nil (x_then ?_) | refine c_nil ?_) | (show oC; first | refine c_tailR 16 kr kr kr kr kr kr (fun _ c => Hp.drew c) ?_ | refine c_seq ?_ | refine c_region ?_ | refine c_skip (x_then ?_) | refine c_block ?_ | refine c_ift rfl aO ?_) | (show QT _ _ _ _ _ _ (_ :: _); first | refine qMv rfl rfl ?_ | refine qFd tabs rfl rfl rfl rfl ?_ | (show qA (.load _ _); first | refine q_y (y_load tabs rfl rfl (hc_own 2 rfl hin')) rfl ?_ | refine q_y (y_load tabs rfl rfl (hc_mk 3 rfl hnR hC1)) rfl ?_ | refine qLd 1 tabs rfl rfl rfl rfl rfl ?_ | refine qLd 4 tabs rfl rfl rfl rfl rfl ?_) | (show qA (.indexAddr _ _ _); first | refine q_y (y_ix1 tabs (j := n * (C + 1) + C) rfl rfl rfl hs2 rfl hc1) rfl ?_ | refine q_y (y_ix1 tabs (j := n) rfl rfl rfl hs' rfl hin') rfl ?_) | (show qA (.binOp _ _ _ _ _); first | refine q_y (y_muln rfl rfl rfl rfl om) rfl ?_ | refine q_y (y_addn (b := C) rfl rfl rfl rfl om) rfl ?_)) | (show QT _ _ _ _ _ _ []; refine q_nil ?_) | (show AT _ _ _ _; first | refine x_then ?_ | refine x_blk ?_))
            refine x_nx (n + 1) sB om (fun w' c' => ?_) om
            simp only [List.set_cons_zero, mkv_set] at c'
            exact c'
          · have : n = piv.length := by omega
            subst this
            repeat' (first | (show oL; first | refine sMv rfl rfl ?_ | refine sAs rfl rfl ?_ | refine sLs rfl rfl rfl ?_ | refine sLn tabs rfl rfl rfl ?_) | refine xNt ?_ | (show oC; first | refine c_seq ?_ | refine c_region ?_ | refine c_ret ?_ | refine c_exit ?_ | refine c_iff rfl nN ?_) | (show AT _ _ _ _; first | refine x_then ?_ | refine x_then_exit ?_ | refine x_blk_exit rfl ?_))
            refine x_ret2 Tryz.results211 (res_tmp rfl) (res_tmp rfl) (fun w' c' => ⟨.tuple #[.slice (some ⟨gg, 0, none⟩) C C, .bool true], [.own (iT (mkv C (solG g C piv piv.length))) (.slice (some ⟨gg, 0, none⟩) C C)], rfl, ⟨_, C, by rw [mkv_length], .mk, by rw [mkv_length]⟩, c'.sub (.cons_cons _ (List.nil_sublist _))⟩)
end Go.Proofs.YtijjkfbkihgfgaaGreat
