import Derived.Test.YtcplmeajmpkpkaaGreatDuaqsp
import Derived.Test.YtcplmeajmpkpkaaGreatImsqsp
import Derived.Test.YtcplmeajmpkpkaaGreatKerqsp
import Derived.Test.YtcplmeajmpkpkaaGreatLEqsp
namespace Go.Proofs.YtcplmeajmpkpkaaGreat
open Go.Lg Go.Proofs Go.RowKit
attribute [local irreducible] Code.wp wpList bodyPost Exit.then Exit.inBlock Hp Again Calls Y AT ResV QT Qn QI wpAny wpAnyQ
set_option maxRecDepth 20000
set_option maxHeartbeats 4000000

theorem kerV_in {p : Int} {g : Nat → Nat → Int} {piv : List Int} {k : Nat} (hp : 2 ≤ p) : ∀ n q, 0 ≤ kerV p g piv k n q ∧ kerV p g piv k n q < p
  | 0, q => by
    simp only [kerV]
    split <;> omega
  | n + 1, q => by
    simp only [kerV]
    split
    · exact ⟨Int.emod_nonneg _ om, Int.emod_lt_of_pos _ om⟩
    · exact kerV_in hp n q
theorem kerL_rows {p : Int} {C : Nat} {g : Nat → Nat → Int} {piv l : List Int} (hp : 2 ≤ p) : RowsP p C (kerL p C g piv l) := fun xs h => by
  obtain ⟨k, _, rfl⟩ := List.mem_map.1 h
  refine ⟨by simp, fun x hx => ?_⟩
  obtain ⟨q, _, rfl⟩ := List.mem_map.1 hx
  have := kerV_in (g := g) (piv := piv) (k := k.toNat) hp piv.length q
  omega
def meeK (p : Int) (C : Nat) (M : List (List Int)) : List (List Int) := kerL p M.length (redTo p C (fromF M) M.length).1 (redTo p C (fromF M) M.length).2 (freeN (redTo p C (fromF M) M.length).2 M.length)
theorem meeK_len {p : Int} {C : Nat} {M : List (List Int)} : (meeK p C M).length ≤ M.length := by
  unfold meeK
  rw [kerL_length]
  exact freeN_le _ _
def meeL (p : Int) (C : Nat) (A B : List (List Int)) : List (List Int) := rowL C (mulF p A.length (rowsF (meeK p C (A ++ B))) (rowsF A)) (meeK p C (A ++ B)).length
theorem meeL_rows {p : Int} {C : Nat} {A B : List (List Int)} (hp : 2 ≤ p) : RowsP p C (meeL p C A B) := fun xs h => by
  simp only [meeL, rowL, List.mem_map] at h
  obtain ⟨i, _, rfl⟩ := h
  refine ⟨by simp, fun x hx => ?_⟩
  obtain ⟨q, _, rfl⟩ := List.mem_map.1 hx
  have := accF_in (p := p) (f := rowsF (meeK p C (A ++ B))) (g := rowsF A) (i := i) (j := q) om A.length
  unfold mulF
  omega
theorem rowsP_get {p : Int} {C : Nat} {M : List (List Int)} (h : RowsP p C M) {k : Nat} {xs : List Int} (hx : M[k]? = some xs) : xs.length = C := (h xs (List.mem_of_getElem? hx)).1
theorem fromF_in {p : Int} {C : Nat} {M : List (List Int)} (h : RowsP p C M) : inF p C M.length (fromF M) := fun i j hi hj => h.inF j i hj hi
theorem rowL_nextT {C k : Nat} {g : Nat → Nat → Int} : (rowL C g k).flatMap rowT ++ (List.map T.c [] ++ [iT (mkv C (g k))]) = (rowL C g (k + 1)).flatMap rowT := by
  rw [rowL_next, List.flatMap_append]
  simp [rowT_map]
theorem hc_row {w : World} {xs : List Int} {a : Option Addr} {n c k : Nat} (h : Rd w (iT xs) (.slice a n c)) (hk : k < xs.length) : w.cell? ⟨ab a, ao a + k, none⟩ = some (.int .i64 (xs.getD k 0)) := by
  obtain ⟨a', c', h1, _, _, _, h5⟩ := h.ints
  cases h1
  exact h5 k hk
theorem rd_sl {w : World} {xs : List Int} {u : Value} (h : Rd w (iT xs) u) : ∃ a c, u = .slice a xs.length c ∧ SA a xs.length := by
  obtain ⟨a, c, h1, h2, _⟩ := h.ints
  exact ⟨a, c, h1, h2⟩
theorem meetSpace_ok {w : World} {p : Int} {C : Nat} {A B : List (List Int)} {n : Int} {u v : Value} (hu : Rd w (rowsT 43 A) u) (hv : Rd w (rowsT 43 B) v) (hF : FieldP p) (hA : RowsP p C A) (hB : RowsP p C B) (hb : A.length + B.length ≤ 64) (hC : C ≤ 64) :
    Does Tryz.prog 36 [iV p, .agg #[iV C, u], .agg #[iV n, v]] w (GivesSp (↑C, basL p C (meeL p C A B))) := by
  have hp := fieldP_pos hF
  obtain ⟨aa, ca, rfl, hsa, _, _, hga⟩ := rd_rows hu
  obtain ⟨ab', cb, rfl, _⟩ := rd_rows hv
  obtain ⟨usa, nA, rA, lA⟩ := rd_names hu om
  obtain ⟨usb, nB, rB, lB⟩ := rd_names hv om
  have hAB := hA.app hB
  have hlen : (A ++ B).length = A.length + B.length := by simp
  refine fn_enter Tryz.func36 rfl Tryz.ntmps36 rfl ?_
  repeat' (first | (show oL; first | (show oA (.box _ _); refine m_box rfl rfl (fun b4 hb4 => ?_)) | (show oA (.alloc _); refine m_alloc tabs rfl rfl (fun b6 hb6 => ?_))) | refine xNt ?_ | (show oC; first | refine c_seq ?_ | refine c_region ?_))
  rename_i b5 hb5
  refine c_all (Hp [] w [.blk b4 #[iV n, .slice ab' B.length cb] 26, .blk b5 #[iV C, .slice aa A.length ca] 26]) kr (fun _ c => Hp.drew c) ?_
  refine fl_begin 9 rfl tabs rfl rfl ?_
  refine fl_take 0 rfl kr kr kr kr kr kr (by exact y_field tabs rfl rfl rfl) rfl (fun w c => by exact c.drop) ?_
  refine fl_take 1 rfl kr kr kr kr kr kr (by exact y_load tabs rfl rfl (hc_blk 1 rfl rfl)) rfl (fun w c => by exact c.drop) ?_
  refine fl_take 2 rfl kr kr kr kr kr kr (by exact y_field tabs rfl rfl rfl) rfl (fun w c => by exact c.drop) ?_
  refine fl_take 3 rfl kr kr kr kr kr kr (by exact y_load tabs rfl rfl (hc_blk 1 rfl rfl)) rfl (fun w c => by exact c.drop) ?_
  refine fl_take 4 rfl kr kr kr kr kr kr (by exact y_field tabs rfl rfl rfl) rfl (fun w c => by exact c.drop) ?_
  refine fl_take 5 rfl kr kr kr kr kr kr (by exact y_load tabs rfl rfl (hc_blk 0 rfl rfl)) rfl (fun w c => by exact c.drop) ?_
  refine fl_many 1 [⟨6, _, _, _⟩] [6] [20] rfl tabs rfl rfl rfl rfl rfl rfl (by decide) rfl kr ⟨⟨⟨rfl, rfl, stf_buildn tabs (vs := [.slice aa A.length ca, .slice ab' B.length cb]) rfl rfl rfl (fun u hu => by simp at hu; rcases hu with rfl | rfl <;> rfl) rfl rfl rfl⟩, rfl, rfl⟩, trivial⟩ sC ?_
  rintro _ _ ⟨g, hg, rfl, rfl⟩
  refine seqF_nil ?_
  refine fl_many 1 [⟨7, _, _, _⟩] [7] [21] rfl tabs rfl rfl rfl rfl rfl rfl (by decide) rfl kr ⟨⟨⟨rfl, rfl, stf_call (ent_of Tryz.func78 kr rfl) rfl rfl (fun w c => (by exact ConcatR_ok (L := [usa, usb]) (two_names (hc_blk 0 rfl rfl w c) (hc_blk 0 rfl rfl w c) (nA.rd c) (nB.rd c)) (by simp; omega) (by simp)))⟩, rfl, rfl⟩, trivial⟩ sC ?_
  rintro _ _ ⟨ac, cc, rfl, rfl⟩
  refine seqF_nil ?_
  refine fl_many 1 [⟨8, _, _, _⟩] [8] [22] rfl tabs rfl rfl rfl rfl rfl rfl (by decide) rfl kr ⟨⟨⟨rfl, rfl, stf_call (ent_of Tryz.func77 kr rfl) rfl rfl (fun w c => fromColumns_ok (C := (A ++ B).length) (rd_two (e' := 43) 0 rfl (by simp) c (c.rdC rA) (c.rdC rB)) rfl om om (fun k xs h => rowsP_get hAB h))⟩, rfl, rfl⟩, trivial⟩ sC ?_
  rintro _ _ ⟨am, cm, rfl, hsm, rfl⟩
  refine seqF_nil ?_
  refine fl_end rfl tabs rfl rfl rfl kr sS (fun bf hbf => ?_)
  refine h_only 10 rfl kr ?_
  (refine m_storeb 0 tabs rfl rfl rfl rfl rfl rfl rfl ?_)
  refine c_nil (x_one (h_keep sS ?_))
  refine h_end kr ?_
  have hFK : inF p C (A ++ B).length (fromF (A ++ B)) := fromF_in hAB
  repeat' (first | (show oL; first | refine sMv rfl rfl ?_ | refine sAs rfl rfl ?_ | refine sLb 0 tabs rfl rfl rfl rfl rfl ?_ | (show oA (.call _); first | (refine m_call (ent_of Tryz.func79 kr rfl) rfl rfl (fun w c => kernel_ok (R := C) (C := (A ++ B).length) (c.own_rd (i := 1) rfl) hF om om hFK) ?_; rintro v H' ⟨ak, ck, rfl, hsk, rfl⟩) | refine sLn tabs rfl rfl rfl ?_)) | refine xNt ?_ | (show oC; first | refine c_seq ?_ | refine c_region ?_ | refine c_block ?_) | (show AT _ _ _ _; refine x_then ?_))
  have hKr : RowsP p (A ++ B).length (meeK p C (A ++ B)) := kerL_rows om
  have hKl := meeK_len (p := p) (C := C) (M := A ++ B)
  have eK : kerL p (A ++ B).length (redTo p C (fromF (A ++ B)) (A ++ B).length).1 (redTo p C (fromF (A ++ B)) (A ++ B).length).2 (freeN (redTo p C (fromF (A ++ B)) (A ++ B).length).2 (A ++ B).length) = meeK p C (A ++ B) := rfl
  rw [eK] at hsk ⊢
  unfold meeL
  generalize meeK p C (A ++ B) = K at *
  refine AT.opn 0 rfl (fun us hus => ?_)
  rw [rowT_map, List.length_map] at hus
  rw [rowT_map]
  refine c_loopH (α := Nat × Option Addr × Nat) [0, 4, 6, 25, 26] (fun s => [(8, .slice s.2.1 s.1 s.2.2), (27, .int .i64 s.1)]) (fun s => s.1 ≤ K.length) (fun s => [.own (rowsT 43 (rowL C (mulF p A.length (rowsF K) (rowsF A)) s.1)) (.slice s.2.1 s.1 s.2.2), .own (.s 43 1 (us.map T.c)) (.slice ak K.length ck), .ownL (K.map iT) us, .blk b6 #[.int .i64 0, .slice none 0 0] 26, .blk b5 #[iV C, .slice aa A.length ca] 26]) (fun s => K.length - s.1) (0, none, 0) rfl sB ?_ ?_ ?_
  · exact Nat.zero_le _
  · exact fun w' c' => Hp.nilp _ _ (c'.sub sL)
  · rintro ⟨i, al, cl⟩ hi
    simp only at hi ⊢
    by_cases hin : i < K.length
    · obtain ⟨ks, hks⟩ : ∃ ks, K[i]? = some ks := ⟨_, List.getElem?_eq_getElem hin⟩
      obtain ⟨uk, huk⟩ : ∃ uk, us[i]? = some uk := ⟨_, List.getElem?_eq_getElem om⟩
      obtain ⟨hkl, hki⟩ := hKr ks (List.mem_of_getElem? hks)
      have hki' : (K.map iT)[i]? = some (iT ks) := by rw [List.getElem?_map, hks]; rfl
      refine AT.fact (fun w' c' => rd_sl (Hp.ownL_rd 2 rfl hki' huk c')) (fun hsu => ?_)
      obtain ⟨a7, c7, rfl, hs7⟩ := hsu
      rw [hkl] at hs7 huk
      have hkF : ∀ k, rowsF K i k = ks.getD k 0 := fun k => by simp [rowsF, List.getD, hks]
      repeat' (first | (show oL; first | refine sMv rfl rfl ?_ | refine sAs rfl rfl ?_ | refine sFd tabs rfl rfl rfl rfl ?_ | (show oA (.load _ _); first | refine st_y (y_load tabs rfl rfl (hc_nm 1 rfl huk)) rfl ?_ | refine sLd 4 tabs rfl rfl rfl rfl rfl ?_ | refine sLd 5 tabs rfl rfl rfl rfl rfl ?_) | (show oA (.indexAddr _ _ _); refine st_y (y_ix1 tabs (j := i) rfl rfl rfl hsk rfl hin) rfl ?_) | refine sLs rfl rfl rfl ?_ | refine sLn tabs rfl rfl rfl ?_ | (show oA (.makeSlice _ _ _); refine m_maken tabs (m := C) rfl rfl rfl rfl om rfl (fun g3 hg3 => ?_))) | refine xNt ?_ | (show oC; first | refine c_seq ?_ | refine c_region ?_ | refine c_skip (x_then ?_) | refine c_block ?_ | refine c_ift rfl aO ?_))
      rw [mkv_zero]
      refine c_loopH (α := Nat) [0, 4, 6, 8, 10, 11, 25, 26, 27, 35, 36] (fun k => [(37, .int .i64 k)]) (fun k => k ≤ A.length) (fun k => [.own (iT (mkv C (fun j => accF p (rowsF K) (rowsF A) i j k))) (.slice (some ⟨g3, 0, none⟩) C C), .own (rowsT 43 (rowL C (mulF p A.length (rowsF K) (rowsF A)) i)) (.slice al i cl), .own (.s 43 1 (us.map T.c)) (.slice ak K.length ck), .ownL (K.map iT) us, .blk b6 #[.int .i64 0, .slice none 0 0] 26, .blk b5 #[iV C, .slice aa A.length ca] 26]) (fun k => A.length - k) 0 rfl sB ?_ ?_ ?_
      · exact Nat.zero_le _
      · exact fun w' c' => c'
      · intro k hk
        by_cases hkA : k < A.length
        · obtain ⟨ys, hy⟩ : ∃ ys, A[k]? = some ys := ⟨_, List.getElem?_eq_getElem hkA⟩
          obtain ⟨a2, c2, g1, g2⟩ := hga k ys hy
          obtain ⟨hyl, hyi⟩ := hA _ (List.mem_of_getElem? hy)
          have hyF : ∀ j, rowsF A k j = ys.getD j 0 := fun j => by simp [rowsF, List.getD, hy]
          rw [hyl] at g1 g2
          obtain ⟨_, _, e2, hs2, _⟩ := g2.ints
          rw [hyl] at hs2 e2
          cases e2
          have hkl2 : k < ks.length := by omega
          have hk7 : k < (A ++ B).length := by omega
          have hkb := inP_get hki hkl2
          have hacc := fun j => accF_in (p := p) (f := rowsF K) (g := rowsF A) (i := i) (j := j) om k
          repeat' (first | (show oL; first | refine sMv rfl rfl ?_ | refine sAs rfl rfl ?_ | (show oA (.load _ _); first | refine st_y (y_load tabs rfl rfl (hc_w0 g1)) rfl ?_ | refine st_y (y_load tabs rfl rfl (fun w c => (hc_row (Hp.ownL_rd 3 rfl hki' huk c) hkl2))) rfl ?_) | (show oA (.indexAddr _ _ _); first | refine st_y (y_ix1 tabs (j := k) rfl rfl rfl hsa rfl hkA) rfl ?_ | refine st_y (y_ix1 tabs (j := k) rfl rfl rfl hs7 rfl hk7) rfl ?_) | (show oA (.binOp _ _ _ _ _); first | refine sAd rfl rfl om rfl ?_ | refine sLs rfl rfl rfl ?_) | (show oA (.call _); (refine m_callL 0 (ent_of Tryz.func80 kr rfl) rfl rfl rfl (fun w M' hl2 => addMultiple_ok (o := 0) (n := C) (ys := ys) hF om hl2 (fun h => rfl) (by rw [mkv_length]; omega) om (fun j hj => by rw [Nat.zero_add, mkv_get hj]; have := hacc j; omega) (fun j hj => by have := inP_get hyi (i := j) om; omega) hs2 (fun w' xs' c' hxl hxo j hj => by have h := (RdOut.rd (hl2.old g2) c').ints; obtain ⟨_, _, e, _, _, _, hh⟩ := h; cases e; exact hh j om)) ?_; rintro v H' ⟨rfl, rfl⟩))) | (show oN; first | refine c_nil (x_then ?_) | refine c_nil ?_) | (show oC; first | refine c_seq ?_ | refine c_region ?_ | refine c_skip (x_then ?_) | refine c_block ?_ | refine c_ift rfl aO ?_) | (show AT _ _ _ _; first | refine x_then ?_ | refine x_blk ?_))
          refine x_nx (k + 1) sB om (fun w' c' => ?_) om
          rw [addTo_mkv] at c'
          have e0 : mkv C (fun b => (accF p (rowsF K) (rowsF A) i b k + ks.getD k 0 * ys.getD b 0) % p) = mkv C (fun j => accF p (rowsF K) (rowsF A) i j (k + 1)) := mkv_ext (fun b hb => by simp only [accF, hyF, hkF])
          rw [e0] at c'
          exact c'
        · have : k = A.length := by omega
          subst this
          repeat' (first | (show oL; first | refine sMv rfl rfl ?_ | refine sAs rfl rfl ?_ | (show oA (.binOp _ _ _ _ _); first | refine sAd rfl rfl om rfl ?_ | refine sLs rfl rfl rfl ?_) | (show oA (.call _); refine m_push1 [] 0 0 tabs (m' := i) rfl rfl rfl rfl rfl rfl rfl (by simp [rowT_map]) (by simp [rowT_map]; omega) (by decide) rfl rfl (fun a10 c10 => ?_)) | (show oA (.buildSlice _ _ _); refine m_build1 tabs (us := [.slice (some ⟨g3, 0, none⟩) C C]) rfl rfl rfl rfl (by decide) rfl (fun g5 hg5 => ?_))) | (show oN; first | refine c_nil (x_then ?_) | refine c_nil ?_) | (show oC; first | refine c_seq ?_ | refine c_region ?_ | refine c_exit ?_ | refine c_iff rfl nN ?_) | (show AT _ _ _ _; first | refine x_then ?_ | refine x_then_exit ?_ | refine x_blk_exit rfl ?_ | refine x_blk ?_))
          refine x_nx (i + 1, a10, c10) sB (by simp only; omega) (fun w' c' => ?_) (by simp only; omega)
          have e0 : mkv C (fun j => accF p (rowsF K) (rowsF A) i j A.length) = mkv C (mulF p A.length (rowsF K) (rowsF A) i) := rfl
          rw [e0, rowL_nextT] at c'
          exact c'
    · have : i = K.length := by omega
      subst this
      have hml : (rowL C (mulF p A.length (rowsF K) (rowsF A)) K.length).length ≤ 64 := by rw [rowL_length]; omega
      have hmr : RowsP p C (rowL C (mulF p A.length (rowsF K) (rowsF A)) K.length) := fun xs h => by
        simp only [rowL, List.mem_map] at h
        obtain ⟨i, _, rfl⟩ := h
        refine ⟨by simp, fun x hx => ?_⟩
        obtain ⟨q, _, rfl⟩ := List.mem_map.1 hx
        have := accF_in (p := p) (f := rowsF K) (g := rowsF A) (i := i) (j := q) om A.length
        unfold mulF
        omega
      repeat' (first | (show oL; first | refine sMv rfl rfl ?_ | refine sFd tabs rfl rfl rfl rfl ?_ | refine sLd 4 tabs rfl rfl rfl rfl rfl ?_ | refine sLs rfl rfl rfl ?_ | (show oA (.call _); (refine m_call (ent_of Tryz.func47 kr rfl) rfl rfl (fun w c => by have h := span_ok (rs := rowL C (mulF p A.length (rowsF K) (rowsF A)) K.length) (c.own_rd (i := 0) rfl) hF hmr hml hC; exact h) ?_; rintro v H' ⟨a9, c9, rfl, hs9, rfl⟩)) | (show oA (.store _ _ _); refine m_storeb 4 tabs rfl rfl rfl rfl rfl rfl rfl ?_)) | refine xNt ?_ | (show oC; first | refine c_seq ?_ | refine c_region ?_ | refine c_ret ?_ | refine c_exit ?_ | refine c_iff rfl nN ?_) | (show AT _ _ _ _; first | refine x_then ?_ | refine x_then_exit ?_ | refine x_blk_exit rfl ?_))
      exact x_ret1 Tryz.results36 (res_cellb 4 tabs rfl rfl rfl rfl) (fun w' c' => ⟨_, _, rfl, ⟨a9, c9, rfl, hs9, rfl⟩, c'.sub (.cons_cons _ (List.nil_sublist _))⟩)
end Go.Proofs.YtcplmeajmpkpkaaGreat

namespace Go.Proofs.YtcplmeajmpkpkaaGreat
open Go.Lg Go.Proofs Go.RowKit
attribute [local irreducible] Code.wp wpList bodyPost Exit.then Exit.inBlock Hp Again Calls Y AT ResV QT Qn QI wpAny wpAnyQ
set_option maxRecDepth 20000
set_option maxHeartbeats 4000000

def meeS (p : Int) (a b : Sp) : Sp := if SumP p a b then (a.1, basL p a.1.toNat (meeL p a.1.toNat a.2 b.2)) else (0, [])
theorem impl_MeetSpaces_ok {w : World} {p : Int} {a b : Sp} {u v : Value} (hu : Rd w (rowsT 43 a.2) u) (hv : Rd w (rowsT 43 b.2) v) : Does Tryz.prog 6 [iV p, .agg #[iV a.1, u], .agg #[iV b.1, v]] w (GivesSpB (meeS p a b) (decide (SumP p a b))) := by
  by_cases hA : SumP p a b
  · rw [meeS, if_pos hA, decide_eq_true hA]
    obtain ⟨C, hc, hC, hl, hF, hn, _⟩ := hA.1.rows
    obtain ⟨C', hc', hC', hl', _, hn', _⟩ := hA.2.1.rows
    have : C' = C := by have := hA.2.2; omega
    subst this
    have hA' : SpcP p a ∧ SpcP p b ∧ a.1 = b.1 := hA
    obtain ⟨n, A⟩ := a
    obtain ⟨n', B⟩ := b
    simp only at hc hc' hu hv hl hl' hn hn'
    subst hc; subst hc'
    simp only [Int.toNat_natCast]
    refine fn_enter Tryz.func6 rfl Tryz.ntmps6 rfl ?_
    repeat' (first | (show oL; first | refine sMv rfl rfl ?_ | refine sAs rfl rfl ?_ | (show oA (.load _ _); first | refine sLb 1 tabs rfl rfl rfl rfl rfl ?_ | refine sLb 2 tabs rfl rfl rfl rfl rfl ?_) | (show oA (.unOp _ _ _); refine st_y (y_notd rfl) rfl ?_) | (show oA (.call _); first | (refine m_call (ent_of Tryz.func35 kr rfl) rfl rfl (fun w c => areSpaces_ok (a := (_, A)) (b := (_, B)) (c.rd hu) (c.rd hv)) ?_; rintro v H' ⟨rfl, rfl⟩) | (refine m_call (ent_of Tryz.func36 kr rfl) rfl rfl (fun w c => meetSpace_ok (c.rd hu) (c.rd hv) hF hl hl' om om) ?_; rintro v H' ⟨a, c, rfl, hs, rfl⟩)) | (show oA (.store _ _ _); refine m_storeb 1 tabs rfl rfl rfl rfl rfl rfl rfl ?_) | (show oA (.box _ _); refine m_box rfl rfl (fun b4 hb4 => ?_)) | (show oA (.alloc _); refine m_alloc tabs rfl rfl (fun b6 hb6 => ?_))) | refine xNt ?_ | (show oC; first | refine c_seq ?_ | refine c_region ?_ | refine c_skip (x_then ?_) | refine c_ret ?_ | refine c_iff rfl nN ?_))
    all_goals first | exact absurd hA' aS | skip
    exact x_ret2 Tryz.results6 (res_cellb 1 tabs rfl rfl rfl rfl) (res_tmp rfl) (fun w' c' => ⟨_, _, rfl, ⟨a, c, rfl, hs, rfl⟩, c'.sub (.cons_cons _ (List.nil_sublist _))⟩)
  · rw [meeS, if_neg hA, decide_eq_false hA]
    have hA' : ¬ (SpcP p a ∧ SpcP p b ∧ a.1 = b.1) := hA
    refine fn_enter Tryz.func6 rfl Tryz.ntmps6 rfl ?_
    repeat' (first | (show oL; first | refine sMv rfl rfl ?_ | refine sAs rfl rfl ?_ | (show oA (.load _ _); first | refine sLb 1 tabs rfl rfl rfl rfl rfl ?_ | refine sLb 2 tabs rfl rfl rfl rfl rfl ?_) | (show oA (.unOp _ _ _); refine st_y (y_notd rfl) rfl ?_) | (show oA (.call _); (refine m_call (ent_of Tryz.func35 kr rfl) rfl rfl (fun w c => areSpaces_ok (a := a) (b := b) (c.rd hu) (c.rd hv)) ?_; rintro v H' ⟨rfl, rfl⟩)) | (show oA (.store _ _ _); refine m_storeb 0 tabs rfl rfl rfl rfl rfl rfl rfl ?_) | (show oA (.box _ _); refine m_box rfl rfl (fun b4 hb4 => ?_)) | (show oA (.alloc _); refine m_alloc tabs rfl rfl (fun b6 hb6 => ?_)) | (show oA (.build _ _); refine st_y (y_bld0 bld_sp0) rfl ?_)) | refine xNt ?_ | (show oC; first | refine c_seq ?_ | refine c_region ?_ | refine c_ret ?_ | refine c_ift rfl aO ?_) | (show AT _ _ _ _; refine x_then_ret ?_))
    all_goals first | exact absurd aS hA' | skip
    exact x_ret2 Tryz.results6 (res_cellb 0 tabs rfl rfl rfl rfl) (res_tmp rfl) (fun w' c' => ⟨_, _, rfl, ⟨none, 0, rfl, .inl rfl, rfl⟩, Hp.nilp _ _ (c'.sub (List.nil_sublist _))⟩)
theorem trF_from {M : List (List Int)} : trF (rowsF M) = fromF M := rfl
theorem spec_MeetSpaces_ok {w : World} {p : Int} {a b : Sp} {u v : Value} (hu : Rd w (rowsT 43 a.2) u) (hv : Rd w (rowsT 43 b.2) v) : Does Tryz.prog 7 [iV p, .agg #[iV a.1, u], .agg #[iV b.1, v]] w (GivesSpB (meeS p a b) (decide (SumP p a b))) := by
  by_cases hA : SumP p a b
  · rw [meeS, if_pos hA, decide_eq_true hA]
    obtain ⟨C, hc, hC, hl, hF, hn, _⟩ := hA.1.rows
    obtain ⟨C', hc', hC', hl', _, hn', _⟩ := hA.2.1.rows
    have : C' = C := by have := hA.2.2; omega
    subst this
    obtain ⟨h1, h2, h3⟩ := hA
    obtain ⟨n, A⟩ := a
    obtain ⟨n', B⟩ := b
    simp only at hc hc' hu hv hl hl' hn hn'
    subst hc; subst hc'
    simp only [Int.toNat_natCast]
    have hp := fieldP_pos hF
    obtain ⟨usa, nA, rA, lA⟩ := rd_names hu om
    obtain ⟨usb, nB, rB, lB⟩ := rd_names hv om
    obtain ⟨aa, ca, rfl, _, hsa, hca, h1a⟩ := nA
    obtain ⟨ab', cb, rfl, _, hsb, hcb, h1b⟩ := nB
    obtain ⟨_, _, ea, hsa2, _, _, hga⟩ := rd_rows hu
    rw [lA] at ea
    cases ea
    have hAB := hl.app hl'
    have hlen : (A ++ B).length = A.length + B.length := by simp
    have hl64 : (A ++ B).length ≤ 64 := by omega
    have hFK : inF p C' (A ++ B).length (fromF (A ++ B)) := fromF_in hAB
    refine fn_enter Tryz.func7 rfl Tryz.ntmps7 rfl ?_
    repeat' (first | (show oL; first | refine sMv rfl rfl ?_ | refine sAs rfl rfl ?_ | refine sFd tabs rfl rfl rfl rfl ?_ | (show oA (.load _ _); first | refine sLb 1 tabs rfl rfl rfl rfl rfl ?_ | refine sLb 2 tabs rfl rfl rfl rfl rfl ?_ | refine sLd 1 tabs rfl rfl rfl rfl rfl ?_ | refine sLd 2 tabs rfl rfl rfl rfl rfl ?_) | (show oA (.binOp _ _ _ _ _); refine st_y (y_neq rfl rfl) rfl ?_) | (show oA (.unOp _ _ _); refine st_y (y_notd rfl) rfl ?_) | (show oA (.call _); first | (refine m_call (ent_of Tryz.func32 kr rfl) rfl rfl (fun w c => spec_IsSpace_ok (s := (_, A)) (c.rd hu)) ?_; rintro v H' ⟨rfl, rfl⟩) | (refine m_call (ent_of Tryz.func32 kr rfl) rfl rfl (fun w c => spec_IsSpace_ok (s := (_, B)) (c.rd hv)) ?_; rintro v H' ⟨rfl, rfl⟩)) | (show oA (.pick _ _ _); first | refine st_y (y_pickt rfl aS rfl) rfl ?_ | refine st_y (y_pickf rfl aS rfl) rfl ?_ | refine st_y (y_pick rfl rfl rfl) rfl ?_) | (show oA (.box _ _); refine m_box rfl rfl (fun b4 hb4 => ?_)) | (show oA (.alloc _); refine m_alloc tabs rfl rfl (fun b6 hb6 => ?_)) | refine st_gn rfl rfl rfl ?_ | refine st_gfy rfl rfl aS ?_ | refine st_gfn rfl rfl aS rfl ?_ | refine st_gd rfl rfl (fun h => ?_) (fun h => ?_)) | refine xNt ?_ | (show oC; first | refine c_seq ?_ | refine c_region ?_ | refine c_skip (x_then ?_) | refine c_true rfl ?_ | refine c_iff rfl nN ?_))
    all_goals first | exact absurd h1 aS | exact absurd h2 aS | exact absurd rfl aS | skip
    rename_i b5 hb5 _
    refine c_all (Hp [] w [.blk b4 #[iV C', .slice ab' usb.length cb] 26, .blk b5 #[iV C', .slice aa usa.length ca] 26]) kr (fun _ c => Hp.drew c) ?_
    refine fl_begin 11 rfl tabs rfl rfl ?_
    refine fl_take 0 rfl kr kr kr kr kr kr (by exact y_field tabs rfl rfl rfl) rfl (fun w c => by exact c.drop) ?_
    refine fl_take 1 rfl kr kr kr kr kr kr (by exact y_load tabs rfl rfl (hc_blk 1 rfl rfl)) rfl (fun w c => by exact c.drop) ?_
    refine fl_take 3 rfl kr kr kr kr kr kr (by exact y_field tabs rfl rfl rfl) rfl (fun w c => by exact c.drop) ?_
    refine fl_take 4 rfl kr kr kr kr kr kr (by exact y_load tabs rfl rfl (hc_blk 1 rfl rfl)) rfl (fun w c => by exact c.drop) ?_
    refine fl_take 6 rfl kr kr kr kr kr kr (by exact y_field tabs rfl rfl rfl) rfl (fun w c => by exact c.drop) ?_
    refine fl_take 7 rfl kr kr kr kr kr kr (by exact y_load tabs rfl rfl (hc_blk 0 rfl rfl)) rfl (fun w c => by exact c.drop) ?_
    refine fl_many 1 [⟨2, _, _, _⟩] [2] [35] rfl tabs rfl rfl rfl rfl rfl rfl (by decide) rfl kr ⟨⟨⟨rfl, rfl, stf_b0 tabs rfl rfl⟩, rfl, rfl⟩, trivial⟩ sC ?_
    rintro _ _ ⟨gb, hgb, rfl, rfl⟩
    refine seqF_nil ?_
    refine fl_step 5 rfl rfl rfl tabs rfl rfl rfl kr kr kr (stp_apps 0 tabs (us := []) (us' := usa) (m' := 0 + usa.length) rfl rfl rfl rfl rfl rfl h1a (by simp) (by simp; omega) (by decide) (named_src hsa hca)) sC (by rintro v H1 ⟨a, cc, rfl, rfl⟩ w c; exact c.sub sL) ?_
    rintro _ _ ⟨a3, c3, rfl, rfl⟩
    refine fl_step 8 rfl rfl rfl tabs rfl rfl rfl kr kr kr (stp_apps 0 tabs (us := [] ++ usa) (us' := usb) (m' := 0 + usa.length + usb.length) rfl rfl rfl rfl rfl rfl h1b (by simp) (by simp; omega) (by decide) (named_src hsb hcb)) sC (by rintro v H1 ⟨a, cc, rfl, rfl⟩ w c; exact c.sub sL) ?_
    rintro _ _ ⟨a4, c4, rfl, rfl⟩
    refine fl_many 1 [⟨9, _, _, _⟩] [9] [42] rfl tabs rfl rfl rfl rfl rfl rfl (by decide) rfl kr ⟨⟨⟨rfl, rfl, stf_call (ent_of Tryz.func38 kr rfl) rfl rfl (fun w c => l5Rows_ok (rd_two (e' := 43) 0 rfl (by simp) c (c.rdC rA) (c.rdC rB)) (fun xs h => (hAB xs h).1) om om)⟩, rfl, rfl⟩, trivial⟩ sC ?_
    rintro _ _ ⟨a5, c5, rfl, hs5, rfl⟩
    refine seqF_nil ?_
    refine fl_many 1 [⟨10, _, _, _⟩] [10] [43] rfl tabs rfl rfl rfl rfl rfl rfl (by decide) rfl kr ⟨⟨⟨rfl, rfl, stf_call (ent_of Tryz.func37 kr rfl) rfl rfl (fun w c => l3Transpose_ok (c.own_rd (i := 0) rfl) om om)⟩, rfl, rfl⟩, trivial⟩ sC ?_
    rintro _ _ ⟨am, cm, rfl, hsm, rfl⟩
    refine seqF_nil ?_
    refine fl_end rfl tabs rfl rfl rfl kr sS (fun bf hbf => ?_)
    refine h_only 12 rfl kr ?_
    (refine m_storeb 0 tabs rfl rfl rfl rfl rfl rfl rfl ?_)
    refine c_nil (x_one (h_keep sS ?_))
    refine h_end kr ?_
    rw [trF_from]
    repeat' (first | (show oL; first | refine sMv rfl rfl ?_ | refine sAs rfl rfl ?_ | refine sLb 0 tabs rfl rfl rfl rfl rfl ?_ | (show oA (.call _); (refine m_call (ent_of Tryz.func39 kr rfl) rfl rfl (fun w c => l4Kernel_ok (R := C') (C := (A ++ B).length) (c.own_rd (i := 1) rfl) hF om om hFK) ?_; rintro v H' ⟨ak, ck, rfl, hsk, rfl⟩)) | (show oA (.buildSlice _ _ _); refine m_build0 tabs rfl rfl (fun go hgo => ?_))) | refine xNt ?_ | (show oC; first | refine c_seq ?_ | refine c_region ?_ | refine c_block ?_) | (show AT _ _ _ _; refine x_then ?_))
    have hKr : RowsP p (A ++ B).length (meeK p C' (A ++ B)) := kerL_rows om
    have hKl := meeK_len (p := p) (C := C') (M := A ++ B)
    have eK : kerL p (A ++ B).length (redTo p C' (fromF (A ++ B)) (A ++ B).length).1 (redTo p C' (fromF (A ++ B)) (A ++ B).length).2 (freeN (redTo p C' (fromF (A ++ B)) (A ++ B).length).2 (A ++ B).length) = meeK p C' (A ++ B) := rfl
    rw [eK] at hsk ⊢
    unfold meeL
    generalize meeK p C' (A ++ B) = K at *
    refine AT.opn 1 rfl (fun us hus => ?_)
    rw [rowT_map, List.length_map] at hus
    rw [rowT_map]
    refine c_loopH (α := Nat × Option Addr × Nat) [0, 4, 6, 9] (fun s => [(10, .slice s.2.1 s.1 s.2.2), (11, .int .i64 s.1)]) (fun s => s.1 ≤ K.length) (fun s => [.own (rowsT 43 (rowL C' (mulF p A.length (rowsF K) (rowsF A)) s.1)) (.slice s.2.1 s.1 s.2.2), .own (.s 43 1 (us.map T.c)) (.slice ak K.length ck), .ownL (K.map iT) us, .blk b6 #[.int .i64 0, .slice none 0 0] 26, .blk b5 #[iV C', .slice aa usa.length ca] 26]) (fun s => K.length - s.1) (0, some ⟨go, 0, none⟩, 0) rfl sB ?_ ?_ ?_
    · exact Nat.zero_le _
    · exact fun w' c' => (c'.front (i := 2) rfl).sub sL
    · rintro ⟨i, al, cl⟩ hi
      simp only at hi ⊢
      by_cases hin : i < K.length
      · obtain ⟨ks, hks⟩ : ∃ ks, K[i]? = some ks := ⟨_, List.getElem?_eq_getElem hin⟩
        obtain ⟨uk, huk⟩ : ∃ uk, us[i]? = some uk := ⟨_, List.getElem?_eq_getElem om⟩
        obtain ⟨hkl, hki⟩ := hKr ks (List.mem_of_getElem? hks)
        have hki' : (K.map iT)[i]? = some (iT ks) := by rw [List.getElem?_map, hks]; rfl
        refine AT.fact (fun w' c' => rd_sl (Hp.ownL_rd 2 rfl hki' huk c')) (fun hsu => ?_)
        obtain ⟨a7, c7, rfl, hs7⟩ := hsu
        rw [hkl] at hs7 huk
        have hkF : ∀ k, rowsF K i k = ks.getD k 0 := fun k => by simp [rowsF, List.getD, hks]
        repeat' (first | (show oL; first | refine sMv rfl rfl ?_ | refine sAs rfl rfl ?_ | refine sFd tabs rfl rfl rfl rfl ?_ | refine sLd 4 tabs rfl rfl rfl rfl rfl ?_ | refine sLs rfl rfl rfl ?_ | refine sLn tabs rfl rfl rfl ?_ | (show oA (.makeSlice _ _ _); refine m_maken tabs (m := C') rfl rfl rfl rfl om rfl (fun g3 hg3 => ?_))) | refine xNt ?_ | (show oC; first | refine c_seq ?_ | refine c_region ?_ | refine c_skip (x_then ?_) | refine c_block ?_ | refine c_ift rfl aO ?_))
        rw [mkv_zero]
        refine c_loopH (α := Nat) [0, 4, 6, 9, 10, 11, 12] (fun k => [(13, .int .i64 k)]) (fun k => k ≤ A.length) (fun k => [.own (iT (mkv C' (fun j => accF p (rowsF K) (rowsF A) i j k))) (.slice (some ⟨g3, 0, none⟩) C' C'), .own (rowsT 43 (rowL C' (mulF p A.length (rowsF K) (rowsF A)) i)) (.slice al i cl), .own (.s 43 1 (us.map T.c)) (.slice ak K.length ck), .ownL (K.map iT) us, .blk b6 #[.int .i64 0, .slice none 0 0] 26, .blk b5 #[iV C', .slice aa usa.length ca] 26]) (fun k => A.length - k) 0 rfl sB ?_ ?_ ?_
        · exact Nat.zero_le _
        · exact fun w' c' => c'
        · intro k hk
          by_cases hkA : k < A.length
          · obtain ⟨ys, hy⟩ : ∃ ys, A[k]? = some ys := ⟨_, List.getElem?_eq_getElem hkA⟩
            obtain ⟨a2, c2, g1, g2⟩ := hga k ys hy
            obtain ⟨hyl, hyi⟩ := hl _ (List.mem_of_getElem? hy)
            have hyF : ∀ j, rowsF A k j = ys.getD j 0 := fun j => by simp [rowsF, List.getD, hy]
            rw [hyl] at g1 g2
            obtain ⟨_, _, e2, hs2, _, _, hg2⟩ := g2.ints
            rw [hyl] at hs2 e2 hg2
            cases e2
            have hkl2 : k < ks.length := by omega
            have hk7 : k < (A ++ B).length := by omega
            have hkb := inP_get hki hkl2
            have hacc := fun j => accF_in (p := p) (f := rowsF K) (g := rowsF A) (i := i) (j := j) om k
            repeat' (first | (show oL; first | refine sMv rfl rfl ?_ | refine sAs rfl rfl ?_ | refine sFd tabs rfl rfl rfl rfl ?_ | refine sLd 5 tabs rfl rfl rfl rfl rfl ?_ | refine sLs rfl rfl rfl ?_ | refine sLn tabs rfl rfl rfl ?_) | refine xNt ?_ | (show oC; first | refine c_seq ?_ | refine c_region ?_ | refine c_skip (x_then ?_) | refine c_block ?_ | refine c_ift rfl aO ?_))
            refine c_loopH (α := Nat) [0, 4, 6, 9, 10, 11, 12, 13] (fun x => [(14, .int .i64 x)]) (fun x => x ≤ C') (fun x => [.own (iT (mkv C' (fun j => if j < x then accF p (rowsF K) (rowsF A) i j (k + 1) else accF p (rowsF K) (rowsF A) i j k))) (.slice (some ⟨g3, 0, none⟩) C' C'), .own (rowsT 43 (rowL C' (mulF p A.length (rowsF K) (rowsF A)) i)) (.slice al i cl), .own (.s 43 1 (us.map T.c)) (.slice ak K.length ck), .ownL (K.map iT) us, .blk b6 #[.int .i64 0, .slice none 0 0] 26, .blk b5 #[iV C', .slice aa usa.length ca] 26]) (fun x => C' - x) 0 rfl sB ?_ ?_ ?_
            · exact Nat.zero_le _
            · intro w' c'
              have e0 : mkv C' (fun j => if j < 0 then accF p (rowsF K) (rowsF A) i j (k + 1) else accF p (rowsF K) (rowsF A) i j k) = mkv C' (fun j => accF p (rowsF K) (rowsF A) i j k) := mkv_ext (fun j _ => by simp)
              rw [e0]
              exact c'
            · intro x hx
              by_cases hxC : x < C'
              · have hxb := inP_get hyi (i := x) om
                have hmm : 0 ≤ ks.getD k 0 * ys.getD x 0 ∧ ks.getD k 0 * ys.getD x 0 ≤ 25 := mul_small om om
                have hax := hacc x
                have hgx : (mkv C' (fun j => if j < x then accF p (rowsF K) (rowsF A) i j (k + 1) else accF p (rowsF K) (rowsF A) i j k)).getD x 0 = accF p (rowsF K) (rowsF A) i x k := by rw [mkv_get hxC, if_neg om]
                repeat' (first | (show oL; first | refine sMv rfl rfl ?_ | refine sAs rfl rfl ?_ | refine sFd tabs rfl rfl rfl rfl ?_ | refine sLd 5 tabs rfl rfl rfl rfl rfl ?_ | (show oA (.indexAddr _ _ _); refine st_y (y_ix1 tabs (j := x) rfl rfl rfl .mk rfl hxC) rfl ?_) | (show oA (.binOp _ _ _ _ _); first | refine sAd rfl rfl om rfl ?_ | refine sLs rfl rfl rfl ?_) | (show oA (.store _ _ _); refine m_storeo 0 tabs rfl rfl rfl rfl (by rw [mkv_length]; exact hxC) ?_)) | (show oN; first | refine c_nil (x_then ?_) | refine c_nil ?_) | (show oC; first | refine c_tailR 25 kr kr kr kr kr kr (fun _ c => Hp.drew c) ?_ | refine c_seq ?_ | refine c_region ?_ | refine c_skip (x_then ?_) | refine c_block ?_ | refine c_ift rfl aO ?_) | (show QT _ _ _ _ _ _ (_ :: _); first | refine qMv rfl rfl ?_ | refine qFd tabs rfl rfl rfl rfl ?_ | (show qA (.load _ _); first | refine qLd 5 tabs rfl rfl rfl rfl rfl ?_ | refine q_y (y_load tabs rfl rfl (hc_own 0 rfl (by rw [mkv_length]; exact hxC))) rfl ?_ | refine q_y (y_load tabs rfl rfl (hc_nm 2 rfl huk)) rfl ?_ | refine q_y (y_load tabs rfl rfl (fun w c => (hc_row (Hp.ownL_rd 3 rfl hki' huk c) hkl2))) rfl ?_ | refine q_y (y_load tabs rfl rfl (hc_w0 g1)) rfl ?_ | refine q_y (y_load tabs rfl rfl (hc_w0 (hg2 x hxC))) rfl ?_) | (show qA (.indexAddr _ _ _); first | refine q_y (y_ix1 tabs (j := x) rfl rfl rfl .mk rfl hxC) rfl ?_ | refine q_y (y_ix1 tabs (j := i) rfl rfl rfl hsk rfl hin) rfl ?_ | refine q_y (y_ix1 tabs (j := k) rfl rfl rfl hs7 rfl hk7) rfl ?_ | refine q_y (y_ix1 tabs (j := x) rfl rfl rfl hs2 rfl hxC) rfl ?_ | refine q_y (y_ix1 tabs rfl rfl rfl mK rfl om) rfl ?_) | (show qA (.binOp _ _ _ _ _); first | refine q_y (y_mul rfl rfl om) rfl ?_ | refine q_y (y_add rfl rfl (by rw [hgx]; omega)) rfl ?_) | (show qA (.call _); refine q_call (ent_of Tryz.func40 kr rfl) rfl rfl (fun w c => l2Mod_ok om om) (fun u H' h => h.1) ?_)) | (show QT _ _ _ _ _ _ []; refine q_nil ?_) | (show AT _ _ _ _; first | refine x_then ?_ | refine x_blk ?_))
                refine x_nx (x + 1) sB om (fun w' c' => ?_) om
                simp only [List.set_cons_zero, mkv_set, hgx] at c'
                have e0 : mkv C' (fun q => if q = x then (accF p (rowsF K) (rowsF A) i x k + ks.getD k 0 * ys.getD x 0) % p else if q < x then accF p (rowsF K) (rowsF A) i q (k + 1) else accF p (rowsF K) (rowsF A) i q k) = mkv C' (fun j => if j < x + 1 then accF p (rowsF K) (rowsF A) i j (k + 1) else accF p (rowsF K) (rowsF A) i j k) := mkv_ext (fun q _ => by
                  by_cases hq : q = x
                  · subst hq
                    rw [if_pos rfl, if_pos om, accF, hyF, hkF]
                  · rw [if_neg hq]
                    by_cases hq2 : q < x
                    · rw [if_pos hq2, if_pos om]
                    · rw [if_neg hq2, if_neg om])
                rw [e0] at c'
                exact c'
              · have : x = C' := by omega
                subst this
                repeat' (first | (show oL; first | refine sMv rfl rfl ?_ | refine sAs rfl rfl ?_ | refine sFd tabs rfl rfl rfl rfl ?_ | refine sLd 5 tabs rfl rfl rfl rfl rfl ?_ | (show oA (.binOp _ _ _ _ _); first | refine sAd rfl rfl om rfl ?_ | refine sLs rfl rfl rfl ?_)) | refine xNt ?_ | (show oC; first | refine c_seq ?_ | refine c_region ?_ | refine c_exit ?_ | refine c_iff rfl nN ?_) | (show AT _ _ _ _; first | refine x_then ?_ | refine x_then_exit ?_ | refine x_blk_exit rfl ?_ | refine x_blk ?_))
                refine x_nx (k + 1) sB om (fun w' c' => ?_) om
                have e0 : mkv x (fun j => if j < x then accF p (rowsF K) (rowsF A) i j (k + 1) else accF p (rowsF K) (rowsF A) i j k) = mkv x (fun j => accF p (rowsF K) (rowsF A) i j (k + 1)) := mkv_ext (fun j hj => by rw [if_pos hj])
                rw [e0] at c'
                exact c'
          · have : k = A.length := by omega
            subst this
            repeat' (first | (show oL; first | refine sMv rfl rfl ?_ | refine sAs rfl rfl ?_ | refine sFd tabs rfl rfl rfl rfl ?_ | refine sLd 5 tabs rfl rfl rfl rfl rfl ?_ | (show oA (.binOp _ _ _ _ _); first | refine sAd rfl rfl om rfl ?_ | refine sLs rfl rfl rfl ?_) | (show oA (.call _); first | refine m_push1 [] 0 0 tabs (m' := i) rfl rfl rfl rfl rfl rfl rfl (by simp [rowT_map]) (by simp [rowT_map]; omega) (by decide) rfl rfl (fun a10 c10 => ?_) | refine sLn tabs rfl rfl rfl ?_) | (show oA (.buildSlice _ _ _); refine m_build1 tabs (us := [.slice (some ⟨g3, 0, none⟩) C' C']) rfl rfl rfl rfl (by decide) rfl (fun g5 hg5 => ?_))) | (show oN; first | refine c_nil (x_then ?_) | refine c_nil ?_) | (show oC; first | refine c_seq ?_ | refine c_region ?_ | refine c_exit ?_ | refine c_iff rfl nN ?_) | (show AT _ _ _ _; first | refine x_then ?_ | refine x_then_exit ?_ | refine x_blk_exit rfl ?_ | refine x_blk ?_))
            refine x_nx (i + 1, a10, c10) sB (by simp only; omega) (fun w' c' => ?_) (by simp only; omega)
            have e0 : mkv C' (fun j => accF p (rowsF K) (rowsF A) i j A.length) = mkv C' (mulF p A.length (rowsF K) (rowsF A) i) := rfl
            rw [e0, rowL_nextT] at c'
            exact c'
      · have : i = K.length := by omega
        subst this
        have hml : (rowL C' (mulF p A.length (rowsF K) (rowsF A)) K.length).length ≤ 64 := by rw [rowL_length]; omega
        have hmr : RowsP p C' (rowL C' (mulF p A.length (rowsF K) (rowsF A)) K.length) := fun xs h => by
          simp only [rowL, List.mem_map] at h
          obtain ⟨i, _, rfl⟩ := h
          refine ⟨by simp, fun x hx => ?_⟩
          obtain ⟨q, _, rfl⟩ := List.mem_map.1 hx
          have := accF_in (p := p) (f := rowsF K) (g := rowsF A) (i := i) (j := q) om A.length
          unfold mulF
          omega
        repeat' (first | (show oL; first | refine sMv rfl rfl ?_ | refine sAs rfl rfl ?_ | refine sFd tabs rfl rfl rfl rfl ?_ | refine sLd 4 tabs rfl rfl rfl rfl rfl ?_ | refine sLs rfl rfl rfl ?_ | (show oA (.call _); first | (refine m_call (ent_of Tryz.func41 kr rfl) rfl rfl (fun w c => by have h := l5Span_ok (rs := rowL C' (mulF p A.length (rowsF K) (rowsF A)) K.length) (c.own_rd (i := 0) rfl) hF hmr hml om; exact h) ?_; rintro v H' ⟨a9, c9, rfl, hs9, rfl⟩) | refine sLn tabs rfl rfl rfl ?_) | (show oA (.store _ _ _); refine m_storeb 4 tabs rfl rfl rfl rfl rfl rfl rfl ?_)) | refine xNt ?_ | (show oC; first | refine c_seq ?_ | refine c_region ?_ | refine c_ret ?_ | refine c_exit ?_ | refine c_iff rfl nN ?_) | (show AT _ _ _ _; first | refine x_then ?_ | refine x_then_exit ?_ | refine x_blk_exit rfl ?_))
        exact x_ret2 Tryz.results7 (res_cellb 4 tabs rfl rfl rfl rfl) (res_tmp rfl) (fun w' c' => ⟨_, _, rfl, ⟨a9, c9, rfl, hs9, rfl⟩, c'.sub (.cons_cons _ (List.nil_sublist _))⟩)
  · rw [meeS, if_neg hA, decide_eq_false hA]
    refine fn_enter Tryz.func7 rfl Tryz.ntmps7 rfl ?_
    repeat' (first | (show oL; first | refine sMv rfl rfl ?_ | refine sAs rfl rfl ?_ | refine sFd tabs rfl rfl rfl rfl ?_ | (show oA (.load _ _); first | refine sLb 1 tabs rfl rfl rfl rfl rfl ?_ | refine sLb 2 tabs rfl rfl rfl rfl rfl ?_ | refine sLd 1 tabs rfl rfl rfl rfl rfl ?_ | refine sLd 2 tabs rfl rfl rfl rfl rfl ?_) | (show oA (.binOp _ _ _ _ _); refine st_y (y_neq rfl rfl) rfl ?_) | (show oA (.unOp _ _ _); refine st_y (y_notd rfl) rfl ?_) | (show oA (.call _); first | (refine m_call (ent_of Tryz.func32 kr rfl) rfl rfl (fun w c => spec_IsSpace_ok (s := a) (c.rd hu)) ?_; rintro v H' ⟨rfl, rfl⟩) | (refine m_call (ent_of Tryz.func32 kr rfl) rfl rfl (fun w c => spec_IsSpace_ok (s := b) (c.rd hv)) ?_; rintro v H' ⟨rfl, rfl⟩)) | (show oA (.pick _ _ _); first | refine st_y (y_pickt rfl aS rfl) rfl ?_ | refine st_y (y_pickf rfl aS rfl) rfl ?_ | refine st_y (y_pick rfl rfl rfl) rfl ?_) | (show oA (.store _ _ _); refine m_storeb 0 tabs rfl rfl rfl rfl rfl rfl rfl ?_) | (show oA (.box _ _); refine m_box rfl rfl (fun b4 hb4 => ?_)) | (show oA (.alloc _); refine m_alloc tabs rfl rfl (fun b6 hb6 => ?_)) | (show oA (.build _ _); refine st_y (y_bld0 bld_sp0) rfl ?_) | refine st_gn rfl rfl rfl ?_ | refine st_gfy rfl rfl aS ?_ | refine st_gfn rfl rfl aS rfl ?_ | refine st_gd rfl rfl (fun h => ?_) (fun h => ?_)) | refine xNt ?_ | (show oC; first | refine c_seq ?_ | refine c_region ?_ | refine c_skip (x_then ?_) | refine c_ret ?_ | refine c_true rfl ?_ | refine c_ifnd rfl (fun h => ?_) (fun h => ?_)) | (show AT _ _ _ _; refine x_then_ret ?_))
    all_goals first
      | exact absurd ⟨by first | assumption | exact Decidable.not_not.1 aS, by first | assumption | exact Decidable.not_not.1 aS, by first | assumption | exact Decidable.not_not.1 aS⟩ hA
      | exact x_ret2 Tryz.results7 (res_cellb 0 tabs rfl rfl rfl rfl) (res_tmp rfl) (fun w' c' => ⟨_, _, rfl, ⟨none, 0, rfl, .inl rfl, rfl⟩, Hp.nilp _ _ (c'.sub (List.nil_sublist _))⟩)
end Go.Proofs.YtcplmeajmpkpkaaGreat
