import Derived.Test.YtdnhmnnccfoliaaGreatDoorRepqrp
import Derived.Test.YtdnhmnnccfoliaaGreatDoorStrqrp
import Derived.Test.YtdnhmnnccfoliaaGreatDoorWhoqrp
namespace Go.Proofs.YtdnhmnnccfoliaaGreatDoor
open Go.Lg Go.Proofs Go.RowKit
attribute [local irreducible] Code.wp wpList bodyPost Exit.then Exit.inBlock Hp Again Calls Y AT ResV QT Qn QI wpAny wpAnyQ
set_option maxRecDepth 20000
set_option maxHeartbeats 4000000

def dgA (xs : List Int) (i : Nat) : Array Value := ((digL (xs.take i)).map bV ++ List.replicate (xs.length - i) (Value.int .u8 0)).toArray
theorem dgA_size {xs : List Int} {i : Nat} (h : i ≤ xs.length) : (dgA xs i).size = xs.length := by
  simp [dgA, digL]; omega
theorem digL_next {xs : List Int} {i : Nat} (h : i < xs.length) : digL (xs.take (i + 1)) = digL (xs.take i) ++ [dg (xs.getD i 0)] := by
  rw [List.take_add_one, List.getElem?_eq_getElem h, digL, List.map_append]
  simp [digL, List.getD, h]
theorem digL_len {xs : List Int} : (digL xs).length = xs.length := by simp [digL]
theorem dgA_next {xs : List Int} {i : Nat} (h : i < xs.length) : (dgA xs i).setIfInBounds i (bV (dg (xs.getD i 0))) = dgA xs (i + 1) := by
  apply Array.ext'
  have hl : ((digL (xs.take i)).map bV).length = i := by simp [digL]; omega
  have e : xs.length - i = (xs.length - (i + 1)) + 1 := by omega
  simp only [dgA, Array.toList_setIfInBounds, List.toList_toArray]
  rw [List.set_append_right _ _ om, hl, Nat.sub_self, e, List.replicate_succ, List.set_cons_zero, digL_next h, List.map_append, List.append_assoc]
  rfl
theorem dgA_all {xs : List Int} : dgA xs xs.length = ((digL xs).map bV).toArray := by simp [dgA]
theorem dgA_zero {xs : List Int} : zeros [Value.int .u8 0] xs.length = dgA xs 0 := by
  apply Array.ext'
  rw [zeros_eq _ _ (by decide)]
  simp [dgA, digL]
theorem digits_ok {w : World} {xs : List Int} {u : Value} (hr : Rd w (iT xs) u) (hl : xs.length ≤ 64) (hd : ∀ i, i < xs.length → 0 ≤ xs.getD i 0 ∧ xs.getD i 0 ≤ 9) : Does Tryz.prog 92 [u] w (fun r H => r = sV (digL xs) ∧ H = []) := by
  obtain ⟨a, c, rfl, hs, hc1, hc2, hg⟩ := hr.ints
  refine fn_enter Tryz.func92 rfl Tryz.ntmps92 rfl ?_
  repeat' (first | (show oL; first | refine sMv rfl rfl ?_ | refine sAs rfl rfl ?_ | refine sLn tabs rfl rfl rfl ?_ | (show oA (.makeSlice _ _ _); refine m_make tabs (l := xs.length) (c := xs.length) rfl rfl rfl om om om om (by decide) (fun g hg => ?_))) | refine xNt ?_ | (show oC; first | refine c_seq ?_ | refine c_region ?_ | refine c_block ?_))
  simp only [Int.toNat_natCast]
  rw [dgA_zero]
  refine c_loopH (α := Nat) [3, 9, 10] (fun i => [(11, .int .i64 i)]) (fun i => i ≤ xs.length) (fun i => [.blk g (dgA xs i) 5]) (fun i => xs.length - i) 0 rfl sB ?_ ?_ ?_
  · exact Nat.zero_le _
  · exact fun w' c' => c'
  · intro i hi
    by_cases hin : i < xs.length
    · have hdi := hd i hin
      have e1 : min (max (xs.getD i 0) 0) 9 = xs.getD i 0 := by omega
      repeat' (first | (show oL; first | refine sMv rfl rfl ?_ | refine sAs rfl rfl ?_ | (show oA (.load _ _); refine st_y (y_load tabs rfl rfl (hc_rd aS om)) rfl ?_) | (show oA (.indexAddr _ _ _); first | refine st_y (y_ix1 tabs (j := i) rfl rfl rfl hs rfl hin) rfl ?_ | refine st_y (y_ixs tabs (j := i) rfl rfl rfl rfl hin) rfl ?_) | (show oA (.binOp _ _ _ _ _); first | refine sAd rfl rfl om rfl ?_ | refine sLs rfl rfl rfl ?_) | (show oA (.call _); first | refine st_y (y_max rfl rfl) rfl ?_ | refine st_y (y_min rfl rfl) rfl ?_) | (show oA (.store _ _ _); refine m_store 0 tabs rfl rfl rfl rfl rfl (by rw [dgA_size hi]; omega) ?_) | (show oA (.convert _ _ _); refine st_y (y_convk (t := 3) (t' := 5) (k := .i64) (k' := .u8) (q := ((dg (xs.getD i 0)).toNat : Int)) kr kr kr rfl (by rw [e1]; exact dg_conv hdi.1 hdi.2)) rfl ?_)) | (show oN; first | refine c_nil (x_then ?_) | refine c_nil ?_) | (show oC; first | refine c_seq ?_ | refine c_region ?_ | refine c_skip (x_then ?_) | refine c_block ?_ | refine c_ift rfl aO ?_) | (show AT _ _ _ _; first | refine x_then ?_ | refine x_blk ?_))
      exact x_nx (i + 1) sB om (fun w' c' => by rw [Nat.zero_add] at c'; rw [← dgA_next hin]; exact c') om
    · have : i = xs.length := by omega
      subst this
      repeat' (first | (show oL; first | refine sMv rfl rfl ?_ | refine sAs rfl rfl ?_ | refine sLs rfl rfl rfl ?_ | (show oA (.convert _ _ _); refine st_y (y_convbs (t := 38) (t' := 9) (e := 5) (l := digL xs) kr kr kr (by rw [digL_len]; rfl) (fun w c => fun j u hj => by rw [dgA_all] at c; rw [Addr.add_lit]; exact hc_blk 0 rfl (by rw [Nat.zero_add, List.getElem?_toArray]; exact hj) w c)) rfl ?_)) | refine xNt ?_ | (show oC; first | refine c_seq ?_ | refine c_region ?_ | refine c_ret ?_ | refine c_exit ?_ | refine c_iff rfl nN ?_) | (show AT _ _ _ _; first | refine x_then ?_ | refine x_then_exit ?_ | refine x_blk_exit rfl ?_))
      exact x_ret1 Tryz.results92 (res_tmp rfl) (fun w' c' => ⟨_, _, rfl, ⟨rfl, rfl⟩, c'.sub (List.nil_sublist _)⟩)
theorem impl_FormatInt_ok {w : World} {n : Int} (h0 : 0 ≤ n) (h9 : n ≤ 9) : Does Tryz.prog 93 [iV n] w (fun r H => r = sV [dg n] ∧ H = []) := by
  refine fn_enter Tryz.func93 rfl Tryz.ntmps93 rfl ?_
  repeat' (first | (show oL; first | refine sMv rfl rfl ?_ | refine sAs rfl rfl ?_ | (show oA (.call _); (refine m_call (ent_of Tryz.func155 kr rfl) rfl rfl (fun w c => itoa_ok h0 h9) ?_; rintro v H' ⟨rfl, rfl⟩))) | refine xNt ?_ | (show oC; first | refine c_seq ?_ | refine c_region ?_ | refine c_ret ?_))
  exact x_ret1 Tryz.results93 (res_tmp rfl) (fun w' c' => ⟨_, _, rfl, ⟨rfl, rfl⟩, c'.sub (List.nil_sublist _)⟩)
end Go.Proofs.YtdnhmnnccfoliaaGreatDoor

namespace Go.Proofs.YtdnhmnnccfoliaaGreatDoor
open Go.Lg Go.Proofs Go.RowKit
theorem cellLt {w : World} {a : Addr} {v : Value} (h : w.cell? a = some v) : a.block < w.heap.size := by
  by_cases hh : a.block < w.heap.size
  · exact hh
  · simp [World.cell?, Array.getElem?_eq_none (Nat.not_lt.1 hh)] at h
attribute [local irreducible] Code.wp wpList bodyPost Exit.then Exit.inBlock Hp Again Calls Y AT ResV QT Qn QI wpAny wpAnyQ
set_option maxRecDepth 20000
set_option maxHeartbeats 4000000

theorem rowsD_len {R C : Nat} {f : Nat → Nat → Int} : (rowsD R C f).length = R := by simp [rowsD]
theorem fmt_text {p : Int} {R C : Nat} {f : Nat → Nat → Int} (hM : MatP p (((R : Nat) : Int), ((C : Nat) : Int), mk R C f)) : fmtM p (((R : Nat) : Int), ((C : Nat) : Int), mk R C f) = [dg R, 120, dg C, 58] ++ bodyN C (mk R C f) (R * C) := by
  rw [fmtM, if_pos hM]
  simp only [mk_length, Int.toNat_natCast]
theorem body_join {R C : Nat} {f : Nat → Nat → Int} (h : 0 < C) : bodyN C (mk R C f) (R * C) = Lib.join (rowsD R C f) [47] := body_all h R (Nat.le_refl _)
theorem strs_fact (i : Nat) {M : List Nat} {w0 : World} {H : List HE} {e m c : Nat} {us : List Value} {a : Option Addr} (hi : H[i]? = some (.own (.s e 1 (us.map T.c)) (.slice a m c))) : ∀ w, Hp M w0 H w → SA a m ∧ m ≤ c := fun w cw => by
  have h := cw.own_rd hi
  simp only [Rd] at h
  obtain ⟨a', n', c', h1, h2, h3, h4, h5⟩ := h
  cases h1
  exact ⟨h5.sa h4 (by decide), h2⟩
theorem rowsD_get {R C j : Nat} {f : Nat → Nat → Int} {x : List UInt8} (h : (rowsD R C f)[j]? = some x) : ((rowsD R C f).map sV)[j]? = some (sV x) := by rw [List.getElem?_map, h]; rfl
theorem rowsD_app {i C : Nat} {f : Nat → Nat → Int} : ((rowsD i C f).map sV).map T.c ++ [T.c (sV (digL (mkv C (f i))))] = ((rowsD (i + 1) C f).map sV).map T.c := by rw [rowsD_next]; simp
theorem join_okn {w : World} {bk o c N : Nat} {xs : List (List UInt8)} {sep : List UInt8} (hN : xs.length = N) (hcells : ∀ (j : Nat) (x : List UInt8), xs[j]? = some x → w.cell? ⟨bk, o + j, none⟩ = some (sV x)) (h0 : 0 < N) (h1 : N ≤ 1000000) (hcap : N ≤ c) (hlen : (Lib.join xs sep).length ≤ 1000000) :
    Does Tryz.prog 94 [.slice (some ⟨bk, o, none⟩) N c, sV sep] w (fun r H => r = sV (Lib.join xs sep) ∧ H = []) := by
  subst hN
  exact join_ok hcells (cellLt (hcells 0 _ (List.getElem?_eq_getElem h0))) h1 hcap hlen
theorem impl_FormatMatrix_ok {w : World} {p : Int} {m : Mat} {u : Value} (hr : Rd w (iT m.2.2) u) : Does Tryz.prog 17 [iV p, .agg #[iV m.1, iV m.2.1, u]] w (fun r H => r = sV (fmtM p m) ∧ H = []) := by
  by_cases hM : MatP p m
  · obtain ⟨R, C, f, rfl, hR, hC, hF, hin⟩ := matP_mk hM
    have hp5 : p ≤ 5 := by unfold FieldP at hF; omega
    have hRC : R * C ≤ 64 := Nat.mul_le_mul hR hC
    simp only at hr
    have hM1 := not_not_intro hM
    refine fn_enter Tryz.func17 rfl Tryz.ntmps17 rfl ?_
    repeat' (first | (show oL; first | refine sMv rfl rfl ?_ | refine sAs rfl rfl ?_ | refine sLb 0 tabs rfl rfl rfl rfl rfl ?_ | (show oA (.unOp _ _ _); refine st_y (y_notd rfl) rfl ?_) | (show oA (.call _); first | (refine m_call (ent_of Tryz.func24 kr rfl) rfl rfl (fun w c => impl_IsMatrix_ok (m := (((R : Nat) : Int), ((C : Nat) : Int), mk R C f)) (c.rd hr)) ?_; rintro v H' ⟨rfl, rfl⟩) | (refine m_call (ent_of Tryz.func91 kr rfl) rfl rfl (fun w c => rows_ok (R := R) (C := C) (f := f) (c.rd hr) om om) ?_; rintro v H' ⟨ar, cr, rfl, hsr, rfl⟩) | refine sLn tabs rfl rfl rfl ?_) | (show oA (.box _ _); refine m_box rfl rfl (fun b hb => ?_))) | refine xNt ?_ | (show oC; first | refine c_seq ?_ | refine c_region ?_ | refine c_skip (x_then ?_) | refine c_block ?_ | refine c_iff rfl nN ?_))
    all_goals first | exact absurd hM aS | skip
    simp only [rowL_length] at hsr ⊢
    refine AT.opn 0 rfl (fun us hus => ?_)
    rw [rowT_map, List.length_map, rowL_length] at hus
    rw [rowT_map]
    refine c_loopH (α := Nat × Option Addr × Nat) [3, 14, 15] (fun s => [(5, .slice s.2.1 s.1 s.2.2), (16, .int .i64 s.1)]) (fun s => s.1 ≤ R) (fun s => [.own (.s 9 1 (((rowsD s.1 C f).map sV).map T.c)) (.slice s.2.1 s.1 s.2.2), .own (.s 22 1 (us.map T.c)) (.slice ar R cr), .ownL ((rowL C f R).map iT) us, .blk b #[iV R, iV C, u] 41]) (fun s => R - s.1) (0, none, 0) rfl sB ?_ ?_ ?_
    · exact Nat.zero_le _
    · exact fun w' c' => Hp.nilp _ _ c'
    · rintro ⟨i, al, cl⟩ hi
      simp only at hi ⊢
      by_cases hin' : i < R
      · obtain ⟨uk, huk⟩ : ∃ uk, us[i]? = some uk := ⟨_, List.getElem?_eq_getElem om⟩
        have hti : ((rowL C f R).map iT)[i]? = some (iT (mkv C (f i))) := by simp [rowL, hin']
        have hdd : ∀ k, k < (mkv C (f i)).length → 0 ≤ (mkv C (f i)).getD k 0 ∧ (mkv C (f i)).getD k 0 ≤ 9 := fun k hk => by
          rw [mkv_length] at hk
          rw [mkv_get hk]
          have := hin i k hin' hk
          omega
        repeat' (first | (show oL; first | refine sMv rfl rfl ?_ | refine sAs rfl rfl ?_ | (show oA (.load _ _); refine st_y (y_load tabs rfl rfl (hc_nm 1 rfl huk)) rfl ?_) | (show oA (.indexAddr _ _ _); refine st_y (y_ix1 tabs (j := i) rfl rfl rfl hsr rfl hin') rfl ?_) | (show oA (.binOp _ _ _ _ _); first | refine sAd rfl rfl om rfl ?_ | refine sLs rfl rfl rfl ?_) | (show oA (.call _); first | (refine m_call (ent_of Tryz.func92 kr rfl) rfl rfl (fun w c => digits_ok (xs := mkv C (f i)) (Hp.ownL_rd 2 rfl hti huk c) (by rw [mkv_length]; omega) hdd) ?_; rintro v H' ⟨rfl, rfl⟩) | refine m_app tabs (m := 1) (m' := i + 1) (ts := ((rowsD i C f).map sV).map T.c) (tn := [T.c (sV (digL (mkv C (f i))))]) (news := [sV (digL (mkv C (f i)))]) (k := 1) rfl rfl rfl rfl (by simp) (by simp [sV, Value.oneCell']) (by simp [rowsD]) (by simp [rowsD]; omega) (by decide) (fun w' c' => (c'.free [sV (digL (mkv C (f i)))]).front (i := 2) rfl) (fun w' c' => .inr ⟨_, rfl, fun j u hj => by rw [Addr.add_lit]; exact hc_blk 0 rfl (by rw [Nat.zero_add, List.getElem?_toArray]; exact hj) w' c'⟩) (fun a9 c9 => ?_)) | (show oA (.buildSlice _ _ _); refine m_build1 tabs (us := [sV (digL (mkv C (f i)))]) rfl rfl rfl rfl (by decide) rfl (fun g5 hg5 => ?_))) | (show oN; first | refine c_nil (x_then ?_) | refine c_nil ?_) | (show oC; first | refine c_seq ?_ | refine c_region ?_ | refine c_skip (x_then ?_) | refine c_block ?_ | refine c_ift rfl aO ?_) | (show AT _ _ _ _; first | refine x_then ?_ | refine x_blk ?_))
        refine x_nx (i + 1, a9, c9) sB (by simp only; omega) (fun w' c' => ?_) (by simp only; omega)
        rw [rowsD_app] at c'
        exact c'.sub sL
      · have : i = R := by omega
        subst this
        refine AT.fact (strs_fact 0 rfl) (fun hsl => ?_)
        by_cases hC0 : (C : Int) > 0
        · rcases Nat.eq_zero_or_pos i with hi0 | hi0
          · subst hi0
            repeat' (first | (show oL; first | refine sMv rfl rfl ?_ | refine sAs rfl rfl ?_ | refine sFd tabs rfl rfl rfl rfl ?_ | refine sLd 3 tabs rfl rfl rfl rfl rfl ?_ | (show oA (.binOp _ _ _ _ _); first | refine st_y (y_cat rfl rfl (by simp) (by simp)) rfl ?_ | refine sLs rfl rfl rfl ?_ | refine st_y (y_gtr rfl rfl) rfl ?_) | (show oA (.call _); (refine m_call (ent_of Tryz.func94 kr rfl) rfl rfl (fun w c => join_none) ?_; rintro v H' ⟨rfl, rfl⟩))) | refine xNt ?_ | (show oC; first | refine c_seq ?_ | refine c_region ?_ | refine c_ret ?_ | refine c_exit ?_ | refine c_draw kr kr (fun _ c => Hp.drew c) ?_ | refine c_false rfl ?_ | refine c_ift rfl aO ?_) | (show QT _ _ _ _ _ _ (_ :: _); first | refine qAs rfl rfl ?_ | refine qFd tabs rfl rfl rfl rfl ?_ | refine qLd 3 tabs rfl rfl rfl rfl rfl ?_ | (show qA (.binOp _ _ _ _ _); refine q_y (y_cat rfl rfl (by simp) (by simp)) rfl ?_) | (show qA (.call _); first | refine q_call (ent_of Tryz.func93 kr rfl) rfl rfl (fun w c => impl_FormatInt_ok (n := ((0 : Nat) : Int)) om om) (fun u H' h => h.1) ?_ | refine q_call (ent_of Tryz.func93 kr rfl) rfl rfl (fun w c => impl_FormatInt_ok (n := (C : Int)) om om) (fun u H' h => h.1) ?_)) | (show QT _ _ _ _ _ _ []; refine q_nil (x_then ?_)) | (show AT _ _ _ _; first | refine x_then ?_ | refine x_then_exit ?_ | refine x_blk_exit rfl ?_))
            exact x_ret1 Tryz.results17 (res_tmp rfl) (fun w' c' => ⟨_, _, rfl, ⟨congrArg sV (by rw [fmt_text hM, Nat.zero_mul]; rfl), rfl⟩, c'.sub (List.nil_sublist _)⟩)
          · obtain ⟨ax, ay, rfl⟩ : ∃ ax ay, al = some ⟨ax, ay, none⟩ := ⟨_, _, hsl.1.get hi0⟩
            have hjl : (Lib.join (rowsD i C f) [47]).length ≤ 1000 := by
              rw [← body_join om]
              have := bodyN_len (C := C) (xs := mk i C f) (i * C)
              omega
            repeat' (first | (show oL; first | refine sMv rfl rfl ?_ | refine sAs rfl rfl ?_ | refine sFd tabs rfl rfl rfl rfl ?_ | refine sLd 3 tabs rfl rfl rfl rfl rfl ?_ | (show oA (.binOp _ _ _ _ _); first | refine st_y (y_cat rfl rfl (by simp) om) rfl ?_ | refine sLs rfl rfl rfl ?_ | refine st_y (y_gtr rfl rfl) rfl ?_) | (show oA (.call _); (refine m_call (ent_of Tryz.func94 kr rfl) rfl rfl (fun w c => join_okn (xs := rowsD i C f) rowsD_len (fun j x hx => hc_nm (a := some ⟨ax, ay, none⟩) 0 rfl (rowsD_get hx) w c) hi0 om hsl.2 om) ?_; rintro v H' ⟨rfl, rfl⟩))) | refine xNt ?_ | (show oC; first | refine c_seq ?_ | refine c_region ?_ | refine c_ret ?_ | refine c_exit ?_ | refine c_draw kr kr (fun _ c => Hp.drew c) ?_ | refine c_ift rfl aO ?_ | refine c_iff rfl nN ?_) | (show QT _ _ _ _ _ _ (_ :: _); first | refine qAs rfl rfl ?_ | refine qFd tabs rfl rfl rfl rfl ?_ | refine qLd 3 tabs rfl rfl rfl rfl rfl ?_ | (show qA (.binOp _ _ _ _ _); refine q_y (y_cat rfl rfl (by simp) (by simp)) rfl ?_) | (show qA (.call _); first | refine q_call (ent_of Tryz.func93 kr rfl) rfl rfl (fun w c => impl_FormatInt_ok (n := (i : Int)) om om) (fun u H' h => h.1) ?_ | refine q_call (ent_of Tryz.func93 kr rfl) rfl rfl (fun w c => impl_FormatInt_ok (n := (C : Int)) om om) (fun u H' h => h.1) ?_)) | (show QT _ _ _ _ _ _ []; refine q_nil (x_then ?_)) | (show AT _ _ _ _; first | refine x_then ?_ | refine x_then_exit ?_ | refine x_blk_exit rfl ?_))
            exact x_ret1 Tryz.results17 (res_tmp rfl) (fun w' c' => ⟨_, _, rfl, ⟨congrArg sV (by rw [fmt_text hM, body_join om]; simp), rfl⟩, c'.sub (List.nil_sublist _)⟩)
        · repeat' (first | (show oL; first | refine sMv rfl rfl ?_ | refine sAs rfl rfl ?_ | refine sFd tabs rfl rfl rfl rfl ?_ | refine sLd 3 tabs rfl rfl rfl rfl rfl ?_ | (show oA (.binOp _ _ _ _ _); first | refine sLs rfl rfl rfl ?_ | refine st_y (y_gtr rfl rfl) rfl ?_)) | refine xNt ?_ | (show oC; first | refine c_seq ?_ | refine c_region ?_ | refine c_skip (x_then ?_) | refine c_ret ?_ | refine c_exit ?_ | refine c_draw kr kr (fun _ c => Hp.drew c) ?_ | refine c_iff rfl nN ?_) | (show QT _ _ _ _ _ _ (_ :: _); first | refine qAs rfl rfl ?_ | refine qFd tabs rfl rfl rfl rfl ?_ | refine qLd 3 tabs rfl rfl rfl rfl rfl ?_ | (show qA (.binOp _ _ _ _ _); refine q_y (y_cat rfl rfl (by simp) (by simp)) rfl ?_) | (show qA (.call _); first | refine q_call (ent_of Tryz.func93 kr rfl) rfl rfl (fun w c => impl_FormatInt_ok (n := (i : Int)) om om) (fun u H' h => h.1) ?_ | refine q_call (ent_of Tryz.func93 kr rfl) rfl rfl (fun w c => impl_FormatInt_ok (n := (C : Int)) om om) (fun u H' h => h.1) ?_)) | (show QT _ _ _ _ _ _ []; refine q_nil (x_then ?_)) | (show AT _ _ _ _; first | refine x_then ?_ | refine x_then_exit ?_ | refine x_blk_exit rfl ?_))
          have hc0 : C = 0 := by omega
          subst hc0
          exact x_ret1 Tryz.results17 (res_tmp rfl) (fun w' c' => ⟨_, _, rfl, ⟨congrArg sV (by rw [fmt_text hM, Nat.mul_zero]; rfl), rfl⟩, c'.sub (List.nil_sublist _)⟩)
  · have e0 : fmtM p m = [] := by rw [fmtM, if_neg hM]
    rw [e0]
    refine fn_enter Tryz.func17 rfl Tryz.ntmps17 rfl ?_
    repeat' (first | (show oL; first | refine sMv rfl rfl ?_ | refine sAs rfl rfl ?_ | refine sLb 0 tabs rfl rfl rfl rfl rfl ?_ | (show oA (.unOp _ _ _); refine st_y (y_notd rfl) rfl ?_) | (show oA (.call _); (refine m_call (ent_of Tryz.func24 kr rfl) rfl rfl (fun w c => impl_IsMatrix_ok (m := m) (c.rd hr)) ?_; rintro v H' ⟨rfl, rfl⟩)) | (show oA (.box _ _); refine m_box rfl rfl (fun b hb => ?_))) | refine xNt ?_ | (show oC; first | refine c_seq ?_ | refine c_region ?_ | refine c_ret ?_ | refine c_ift rfl aO ?_) | (show AT _ _ _ _; refine x_then_ret ?_))
    all_goals first | exact absurd aS hM | skip
    exact x_ret1 Tryz.results17 (res_tmp rfl) (fun w' c' => ⟨_, _, rfl, ⟨rfl, rfl⟩, c'.sub (List.nil_sublist _)⟩)
theorem mk_num {p : Int} {R C i : Nat} {f : Nat → Nat → Int} (h : inF p R C f) (hi : i < R * C) : 0 ≤ (mk R C f).getD i 0 ∧ (mk R C f).getD i 0 ≤ p - 1 := by
  have hl : i < (mk R C f).length := by rw [mk_length]; exact hi
  refine inP_mk h ((mk R C f).getD i 0) ?_
  simp only [List.getD, List.getElem?_eq_getElem hl, Option.getD_some]
  exact List.getElem_mem _
theorem spec_FormatMatrix_ok {w : World} {p : Int} {m : Mat} {u : Value} (hr : Rd w (iT m.2.2) u) : Does Tryz.prog 21 [iV p, .agg #[iV m.1, iV m.2.1, u]] w (fun r H => r = sV (fmtM p m) ∧ H = []) := by
  by_cases hM : MatP p m
  · obtain ⟨R, C, f, rfl, hR, hC, hF, hin⟩ := matP_mk hM
    have hp5 : p ≤ 5 := by unfold FieldP at hF; omega
    have hRC : R * C ≤ 64 := Nat.mul_le_mul hR hC
    simp only at hr
    obtain ⟨a, c, rfl, hs, hc1, hc2, hg⟩ := hr.ints
    simp only [mk_length] at hs hg
    have hM1 := not_not_intro hM
    rw [fmt_text hM]
    refine fn_enter Tryz.func21 rfl Tryz.ntmps21 rfl ?_
    repeat' (first | (show oL; first | refine sMv rfl rfl ?_ | refine sAs rfl rfl ?_ | refine sLb 0 tabs rfl rfl rfl rfl rfl ?_ | (show oA (.unOp _ _ _); refine st_y (y_notd rfl) rfl ?_) | (show oA (.call _); (refine m_call (ent_of Tryz.func22 kr rfl) rfl rfl (fun w c => spec_IsMatrix_ok (m := (((R : Nat) : Int), ((C : Nat) : Int), mk R C f)) (c.rd hr)) ?_; rintro v H' ⟨rfl, rfl⟩)) | (show oA (.box _ _); refine m_box rfl rfl (fun b hb => ?_))) | refine xNt ?_ | (show oC; first | refine c_seq ?_ | refine c_region ?_ | refine c_skip (x_then ?_) | refine c_block ?_ | refine c_draw kr kr (fun _ c => Hp.drew c) ?_ | refine c_iff rfl nN ?_) | (show QT _ _ _ _ _ _ (_ :: _); first | refine qAs rfl rfl ?_ | refine qFd tabs rfl rfl rfl rfl ?_ | refine qLd 0 tabs rfl rfl rfl rfl rfl ?_ | (show qA (.binOp _ _ _ _ _); refine q_y (y_cat rfl rfl (by simp) (by simp)) rfl ?_) | (show qA (.call _); first | refine q_call (ent_of Tryz.func103 kr rfl) rfl rfl (fun w c => spec_FormatInt_ok (n := (R : Int)) om om) (fun u H' h => h.1) ?_ | refine q_call (ent_of Tryz.func103 kr rfl) rfl rfl (fun w c => spec_FormatInt_ok (n := (C : Int)) om om) (fun u H' h => h.1) ?_)) | (show QT _ _ _ _ _ _ []; refine q_nil (x_then ?_)))
    all_goals first | exact absurd hM aS | skip
    simp only [mk_length]
    refine c_loopH (α := Nat) [3] (fun i => [(5, sV ([dg R, 120, dg C, 58] ++ bodyN C (mk R C f) i)), (6, .int .i64 i)]) (fun i => i ≤ R * C) (fun i => [.blk b #[iV R, iV C, .slice a (R * C) c] 41]) (fun i => R * C - i) 0 rfl sB ?_ ?_ ?_
    · exact Nat.zero_le _
    · exact fun w' c' => c'
    · intro i hi
      have hbl := bodyN_len (C := C) (xs := mk R C f) i
      by_cases hin' : i < R * C
      · have gi := hg i hin'
        have hC0 : C ≠ 0 := by rintro rfl; simp at hin'
        have hx : 0 ≤ (mk R C f).getD i 0 ∧ (mk R C f).getD i 0 ≤ 9 := by
          have hm := mk_num hin hin'
          omega
        by_cases hi0 : (i : Int) > 0
        · have et : (i : Int).tmod (C : Int) = ((i % C : Nat) : Int) := rfl
          by_cases hmod : i % C = 0
          · have hmz : (i : Int).tmod (C : Int) = 0 := by rw [et, hmod]; rfl
            have en : bodyN C (mk R C f) (i + 1) = bodyN C (mk R C f) i ++ ([47] ++ [dg ((mk R C f).getD i 0)]) := by rw [bodyN, if_pos ⟨by omega, hmod⟩]
            repeat' (first | (show oL; first | refine sMv rfl rfl ?_ | refine sAs rfl rfl ?_ | refine sFd tabs rfl rfl rfl rfl ?_ | (show oA (.load _ _); first | refine st_y (y_load tabs rfl rfl (hc_w0 gi)) rfl ?_ | refine sLd 0 tabs rfl rfl rfl rfl rfl ?_) | (show oA (.indexAddr _ _ _); refine st_y (y_ix1 tabs (j := i) rfl rfl rfl hs rfl hin') rfl ?_) | (show oA (.binOp _ _ _ _ _); first | refine st_y (y_rem rfl rfl om) rfl ?_ | refine st_y (y_cat rfl rfl (by simp; omega) (by simp)) rfl ?_ | refine sAd rfl rfl om rfl ?_ | refine sLs rfl rfl rfl ?_ | refine st_y (y_gtr rfl rfl) rfl ?_ | refine st_y (y_eql rfl rfl) rfl ?_) | (show oA (.call _); first | (refine m_call (ent_of Tryz.func103 kr rfl) rfl rfl (fun w c => spec_FormatInt_ok (n := (mk R C f).getD i 0) hx.1 hx.2) ?_; rintro v H' ⟨rfl, rfl⟩) | refine sLn tabs rfl rfl rfl ?_) | (show oA (.pick _ _ _); refine st_y (y_pickt rfl aO rfl) rfl ?_) | refine st_gdy rfl rfl aO ?_) | (show oN; first | refine c_nil (x_then ?_) | refine c_nil ?_) | (show oC; first | refine c_seq ?_ | refine c_region ?_ | refine c_skip (x_then ?_) | refine c_block ?_ | refine c_ift rfl aO ?_) | (show AT _ _ _ _; first | refine x_then ?_ | refine x_blk ?_))
            rw [List.append_assoc, List.append_assoc, ← en]
            exact x_nx (i + 1) sB om (fun w' c' => c') om
          · have hmz : (i : Int).tmod (C : Int) ≠ 0 := by rw [et]; omega
            have en : bodyN C (mk R C f) (i + 1) = bodyN C (mk R C f) i ++ [dg ((mk R C f).getD i 0)] := by rw [bodyN, if_neg (fun h => hmod h.2), List.nil_append]
            repeat' (first | (show oL; first | refine sMv rfl rfl ?_ | refine sAs rfl rfl ?_ | refine sFd tabs rfl rfl rfl rfl ?_ | (show oA (.load _ _); first | refine st_y (y_load tabs rfl rfl (hc_w0 gi)) rfl ?_ | refine sLd 0 tabs rfl rfl rfl rfl rfl ?_) | (show oA (.indexAddr _ _ _); refine st_y (y_ix1 tabs (j := i) rfl rfl rfl hs rfl hin') rfl ?_) | (show oA (.binOp _ _ _ _ _); first | refine st_y (y_rem rfl rfl om) rfl ?_ | refine st_y (y_cat rfl rfl (by simp; omega) (by simp)) rfl ?_ | refine sAd rfl rfl om rfl ?_ | refine sLs rfl rfl rfl ?_ | refine st_y (y_gtr rfl rfl) rfl ?_ | refine st_y (y_eql rfl rfl) rfl ?_) | (show oA (.call _); first | (refine m_call (ent_of Tryz.func103 kr rfl) rfl rfl (fun w c => spec_FormatInt_ok (n := (mk R C f).getD i 0) hx.1 hx.2) ?_; rintro v H' ⟨rfl, rfl⟩) | refine sLn tabs rfl rfl rfl ?_) | (show oA (.pick _ _ _); refine st_y (y_pickt rfl aO rfl) rfl ?_) | refine st_gdy rfl rfl aO ?_) | (show oN; first | refine c_nil (x_then ?_) | refine c_nil ?_) | (show oC; first | refine c_seq ?_ | refine c_region ?_ | refine c_skip (x_then ?_) | refine c_block ?_ | refine c_ift rfl aO ?_ | refine c_iff rfl nN ?_) | (show AT _ _ _ _; first | refine x_then ?_ | refine x_blk ?_))
            rw [List.append_assoc, ← en]
            exact x_nx (i + 1) sB om (fun w' c' => c') om
        · have en : bodyN C (mk R C f) (i + 1) = bodyN C (mk R C f) i ++ [dg ((mk R C f).getD i 0)] := by rw [bodyN, if_neg (fun h => hi0 om), List.nil_append]
          repeat' (first | (show oL; first | refine sMv rfl rfl ?_ | refine sAs rfl rfl ?_ | refine sFd tabs rfl rfl rfl rfl ?_ | (show oA (.load _ _); first | refine st_y (y_load tabs rfl rfl (hc_w0 gi)) rfl ?_ | refine sLd 0 tabs rfl rfl rfl rfl rfl ?_) | (show oA (.indexAddr _ _ _); refine st_y (y_ix1 tabs (j := i) rfl rfl rfl hs rfl hin') rfl ?_) | (show oA (.binOp _ _ _ _ _); first | refine st_y (y_cat rfl rfl (by simp; omega) (by simp)) rfl ?_ | refine sAd rfl rfl om rfl ?_ | refine sLs rfl rfl rfl ?_ | refine st_y (y_gtr rfl rfl) rfl ?_) | (show oA (.call _); first | (refine m_call (ent_of Tryz.func103 kr rfl) rfl rfl (fun w c => spec_FormatInt_ok (n := (mk R C f).getD i 0) hx.1 hx.2) ?_; rintro v H' ⟨rfl, rfl⟩) | refine sLn tabs rfl rfl rfl ?_) | (show oA (.pick _ _ _); refine st_y (y_pickf rfl aO rfl) rfl ?_) | refine st_gdn rfl rfl aO rfl ?_) | (show oN; first | refine c_nil (x_then ?_) | refine c_nil ?_) | (show oC; first | refine c_seq ?_ | refine c_region ?_ | refine c_skip (x_then ?_) | refine c_block ?_ | refine c_false rfl ?_ | refine c_ift rfl aO ?_) | (show AT _ _ _ _; first | refine x_then ?_ | refine x_blk ?_))
          rw [List.append_assoc, ← en]
          exact x_nx (i + 1) sB om (fun w' c' => c') om
      · have : i = R * C := by omega
        subst this
        repeat' (first | (show oL; first | refine sMv rfl rfl ?_ | refine sAs rfl rfl ?_ | refine sFd tabs rfl rfl rfl rfl ?_ | refine sLd 0 tabs rfl rfl rfl rfl rfl ?_ | refine sLs rfl rfl rfl ?_ | refine sLn tabs rfl rfl rfl ?_) | refine xNt ?_ | (show oC; first | refine c_seq ?_ | refine c_region ?_ | refine c_ret ?_ | refine c_exit ?_ | refine c_iff rfl nN ?_) | (show AT _ _ _ _; first | refine x_then ?_ | refine x_then_exit ?_ | refine x_blk_exit rfl ?_))
        exact x_ret1 Tryz.results21 (res_tmp rfl) (fun w' c' => ⟨_, _, rfl, ⟨rfl, rfl⟩, c'.sub (List.nil_sublist _)⟩)
  · have e0 : fmtM p m = [] := by rw [fmtM, if_neg hM]
    rw [e0]
    refine fn_enter Tryz.func21 rfl Tryz.ntmps21 rfl ?_
    repeat' (first | (show oL; first | refine sMv rfl rfl ?_ | refine sAs rfl rfl ?_ | refine sLb 0 tabs rfl rfl rfl rfl rfl ?_ | (show oA (.unOp _ _ _); refine st_y (y_notd rfl) rfl ?_) | (show oA (.call _); (refine m_call (ent_of Tryz.func22 kr rfl) rfl rfl (fun w c => spec_IsMatrix_ok (m := m) (c.rd hr)) ?_; rintro v H' ⟨rfl, rfl⟩)) | (show oA (.box _ _); refine m_box rfl rfl (fun b hb => ?_))) | refine xNt ?_ | (show oC; first | refine c_seq ?_ | refine c_region ?_ | refine c_ret ?_ | refine c_ift rfl aO ?_) | (show AT _ _ _ _; refine x_then_ret ?_))
    all_goals first | exact absurd aS hM | skip
    exact x_ret1 Tryz.results21 (res_tmp rfl) (fun w' c' => ⟨_, _, rfl, ⟨rfl, rfl⟩, c'.sub (List.nil_sublist _)⟩)
end Go.Proofs.YtdnhmnnccfoliaaGreatDoor
