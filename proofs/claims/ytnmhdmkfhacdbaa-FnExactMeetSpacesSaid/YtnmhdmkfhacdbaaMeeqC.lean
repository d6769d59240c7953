import Derived.Test.YtnmhdmkfhacdbaaDuaqC
import Derived.Test.YtnmhdmkfhacdbaaImsqC
import Derived.Test.YtnmhdmkfhacdbaaKerqC
import Derived.Test.YtnmhdmkfhacdbaaLEqC
namespace Go.Proofs.Ytnmhdmkfhacdbaa
open Go.Lg Go.Proofs Go.RowKit
attribute [local irreducible] Code.wp wpList bodyPost Exit.then Exit.inBlock Hp Again Calls Y AT ResV QT Qn QI wpAny wpAnyQ
set_option maxRecDepth 20000
set_option maxHeartbeats 4000000

/-! ### the meet of two spaces -/
theorem kerV_in {p : Int} {g : Nat → Nat → Int} {piv : List Int} {k : Nat} (hp : 2 ≤ p) : ∀ n q, 0 ≤ kerV p g piv k n q ∧ kerV p g piv k n q < p
  | 0, q => by
    simp only [kerV]
    split <;> omega
  | n + 1, q => by
    simp only [kerV]
    split
    · exact ⟨Int.emod_nonneg _ (by omega), Int.emod_lt_of_pos _ (by omega)⟩
    · exact kerV_in hp n q
theorem kerL_rows {p : Int} {C : Nat} {g : Nat → Nat → Int} {piv l : List Int} (hp : 2 ≤ p) : RowsP p C (kerL p C g piv l) := fun xs h => by
  obtain ⟨k, _, rfl⟩ := List.mem_map.1 h
  refine ⟨by simp, fun x hx => ?_⟩
  obtain ⟨q, _, rfl⟩ := List.mem_map.1 hx
  have := kerV_in (g := g) (piv := piv) (k := k.toNat) hp piv.length q
  omega
/-- the combinations of both bases that vanish -/
def meeK (p : Int) (C : Nat) (M : List (List Int)) : List (List Int) := kerL p M.length (redTo p C (fromF M) M.length).1 (redTo p C (fromF M) M.length).2 (freeN (redTo p C (fromF M) M.length).2 M.length)
theorem meeK_len {p : Int} {C : Nat} {M : List (List Int)} : (meeK p C M).length ≤ M.length := by
  unfold meeK
  rw [kerL_length]
  exact freeN_le _ _
/-- the vectors of the first one that they tell -/
def meeL (p : Int) (C : Nat) (A B : List (List Int)) : List (List Int) := rowL C (mulF p A.length (rowsF (meeK p C (A ++ B))) (rowsF A)) (meeK p C (A ++ B)).length
theorem rowsP_get {p : Int} {C : Nat} {M : List (List Int)} (h : RowsP p C M) {k : Nat} {xs : List Int} (hx : M[k]? = some xs) : xs.length = C := (h xs (List.mem_of_getElem? hx)).1
theorem fromF_in {p : Int} {C : Nat} {M : List (List Int)} (h : RowsP p C M) : inF p C M.length (fromF M) := fun i j hi hj => h.inF j i hj hi
theorem rowL_nextT {C k : Nat} {g : Nat → Nat → Int} : (rowL C g k).flatMap rowT ++ (List.map T.c [] ++ [iT (mkv C (g k))]) = (rowL C g (k + 1)).flatMap rowT := by
  rw [rowL_next, List.flatMap_append]
  simp [rowT_map]
theorem hc_row {w : World} {xs : List Int} {a : Option Addr} {n c k : Nat} (h : Rd w (iT xs) (.slice a n c)) (hk : k < xs.length) : w.cell? ⟨ab a, ao a + k, none⟩ = some (.int .i64 (xs.getD k 0)) := by
  obtain ⟨a', c', h1, _, _, _, h5⟩ := h.ints
  cases h1
  exact h5 k hk
theorem rd_sl {w : World} {xs : List Int} {u : Value} (h : Rd w (iT xs) u) : ∃ a c, u = .slice a xs.length c ∧ SA a xs.length := by
  obtain ⟨a, c, h1, h2, _⟩ := h.ints
  exact ⟨a, c, h1, h2⟩
theorem meetSpace_ok {w : World} {p : Int} {C : Nat} {A B : List (List Int)} {n : Int} {u v : Value} (hu : Rd w (rowsT 22 A) u) (hv : Rd w (rowsT 22 B) v) (hF : FieldP p) (hA : RowsP p C A) (hB : RowsP p C B) (hb : A.length + B.length ≤ 64) (hC : C ≤ 64) :
    Does Try.prog 112 [iV p, .agg #[iV C, u], .agg #[iV n, v]] w (GivesSp (↑C, basL p C (meeL p C A B))) := by
  have hp := fieldP_pos hF
  obtain ⟨aa, ca, rfl, hsa, _, _, hga⟩ := rd_rows hu
  obtain ⟨ab', cb, rfl, _⟩ := rd_rows hv
  obtain ⟨usa, nA, rA, lA⟩ := rd_names hu (by omega)
  obtain ⟨usb, nB, rB, lB⟩ := rd_names hv (by omega)
  have hAB := hA.app hB
  have hlen : (A ++ B).length = A.length + B.length := by simp
  refine fn_enter Try.func112 rfl Try.ntmps112 rfl ?_
  repeat' (first
    | (show AT _ _ _ (wpList _ _ _ (_ :: _)); first
       | (show AT _ _ _ (wpList _ _ _ (⟨_, Op.box _ _, _, _, _, _⟩ :: _)); refine m_box rfl rfl (fun b4 hb4 => ?_))
       | (show AT _ _ _ (wpList _ _ _ (⟨_, Op.alloc _, _, _, _, _⟩ :: _)); refine m_alloc tabs rfl rfl (fun b6 hb6 => ?_)))
    | (show AT _ _ _ (wpList _ _ _ []); refine c_nil (x_then ?_))
    | (show AT _ _ _ (Code.wp _ _ _); first | refine c_seq ?_ | refine c_region ?_))
  rename_i b5 hb5
  refine c_all (Hp [] w [.blk b4 #[iV n, .slice ab' B.length cb] 61, .blk b5 #[iV C, .slice aa A.length ca] 61]) (by kernel_rfl) (fun _ c => Hp.drew c) ?_
  refine fl_begin 9 rfl tabs rfl rfl ?_
  refine fl_take 0 rfl (by kernel_rfl) (by kernel_rfl) (by kernel_rfl) (by kernel_rfl) (by kernel_rfl) (by kernel_rfl) (by exact y_field tabs rfl rfl rfl) rfl (fun w c => by exact c.drop) ?_
  refine fl_take 1 rfl (by kernel_rfl) (by kernel_rfl) (by kernel_rfl) (by kernel_rfl) (by kernel_rfl) (by kernel_rfl) (by exact y_load tabs rfl rfl (hc_blk 1 rfl rfl)) rfl (fun w c => by exact c.drop) ?_
  refine fl_take 2 rfl (by kernel_rfl) (by kernel_rfl) (by kernel_rfl) (by kernel_rfl) (by kernel_rfl) (by kernel_rfl) (by exact y_field tabs rfl rfl rfl) rfl (fun w c => by exact c.drop) ?_
  refine fl_take 3 rfl (by kernel_rfl) (by kernel_rfl) (by kernel_rfl) (by kernel_rfl) (by kernel_rfl) (by kernel_rfl) (by exact y_load tabs rfl rfl (hc_blk 1 rfl rfl)) rfl (fun w c => by exact c.drop) ?_
  refine fl_take 4 rfl (by kernel_rfl) (by kernel_rfl) (by kernel_rfl) (by kernel_rfl) (by kernel_rfl) (by kernel_rfl) (by exact y_field tabs rfl rfl rfl) rfl (fun w c => by exact c.drop) ?_
  refine fl_take 5 rfl (by kernel_rfl) (by kernel_rfl) (by kernel_rfl) (by kernel_rfl) (by kernel_rfl) (by kernel_rfl) (by exact y_load tabs rfl rfl (hc_blk 0 rfl rfl)) rfl (fun w c => by exact c.drop) ?_
  refine fl_many 1 [⟨6, _, _, _⟩] [6] [20] rfl tabs rfl rfl rfl rfl rfl rfl (by decide) rfl (by kernel_rfl) ⟨⟨⟨rfl, rfl, stf_buildn tabs (vs := [.slice aa A.length ca, .slice ab' B.length cb]) rfl rfl rfl (fun u hu => by simp at hu; rcases hu with rfl | rfl <;> rfl) rfl rfl rfl⟩, rfl, rfl⟩, trivial⟩ (fun w c => by first | exact c | exact c.drop | exact c.drop.drop | exact Hp.sub (List.sublist_append_right _ _) c | exact c.sub (by repeat' first | exact List.Sublist.refl _ | exact List.nil_sublist _ | apply List.Sublist.cons_cons | apply List.Sublist.cons)) ?_
  rintro _ _ ⟨g, hg, rfl, rfl⟩
  refine seqF_nil ?_
  refine fl_many 1 [⟨7, _, _, _⟩] [7] [21] rfl tabs rfl rfl rfl rfl rfl rfl (by decide) rfl (by kernel_rfl) ⟨⟨⟨rfl, rfl, stf_call (ent_of Try.func155 (by kernel_rfl) rfl) rfl rfl (fun w c => (by exact ConcatR_ok (L := [usa, usb]) (two_names (hc_blk 0 rfl rfl w c) (hc_blk 0 rfl rfl w c) (nA.rd c) (nB.rd c)) (by simp; omega) (by simp)))⟩, rfl, rfl⟩, trivial⟩ (fun w c => by first | exact c | exact c.drop | exact c.drop.drop | exact Hp.sub (List.sublist_append_right _ _) c | exact c.sub (by repeat' first | exact List.Sublist.refl _ | exact List.nil_sublist _ | apply List.Sublist.cons_cons | apply List.Sublist.cons)) ?_
  rintro _ _ ⟨ac, cc, rfl, rfl⟩
  refine seqF_nil ?_
  refine fl_many 1 [⟨8, _, _, _⟩] [8] [22] rfl tabs rfl rfl rfl rfl rfl rfl (by decide) rfl (by kernel_rfl) ⟨⟨⟨rfl, rfl, stf_call (ent_of Try.func154 (by kernel_rfl) rfl) rfl rfl (fun w c => fromColumns_ok (C := (A ++ B).length) (rd_two (e' := 22) 0 rfl (by simp) c (c.rdC rA) (c.rdC rB)) rfl (by omega) (by omega) (fun k xs h => rowsP_get hAB h))⟩, rfl, rfl⟩, trivial⟩ (fun w c => by first | exact c | exact c.drop | exact c.drop.drop | exact Hp.sub (List.sublist_append_right _ _) c | exact c.sub (by repeat' first | exact List.Sublist.refl _ | exact List.nil_sublist _ | apply List.Sublist.cons_cons | apply List.Sublist.cons)) ?_
  rintro _ _ ⟨am, cm, rfl, hsm, rfl⟩
  refine seqF_nil ?_
  refine fl_end rfl tabs rfl rfl rfl (by kernel_rfl) (fun w c => by exact c.sub (by repeat' first | exact List.Sublist.refl _ | exact List.nil_sublist _ | apply List.Sublist.cons_cons | apply List.Sublist.cons)) (fun bf hbf => ?_)
  refine h_only 10 rfl (by kernel_rfl) ?_
  (refine m_storeb 0 tabs rfl rfl rfl rfl rfl rfl rfl ?_)
  refine c_nil (x_one (h_keep (fun w c => by exact c.sub (by repeat' first | exact List.Sublist.refl _ | exact List.nil_sublist _ | apply List.Sublist.cons_cons | apply List.Sublist.cons)) ?_))
  refine h_end (by kernel_rfl) ?_
  have hFK : inF p C (A ++ B).length (fromF (A ++ B)) := fromF_in hAB
  repeat' (first
    | (show AT _ _ _ (wpList _ _ _ (_ :: _)); first
       | (show AT _ _ _ (wpList _ _ _ (⟨_, Op.move _, _, _, _, _⟩ :: _)); refine st_y (y_move rfl) rfl ?_)
       | (show AT _ _ _ (wpList _ _ _ (⟨_, Op.assign _, _, _, _, _⟩ :: _)); refine st_y (y_assign rfl) rfl ?_)
       | (show AT _ _ _ (wpList _ _ _ (⟨_, Op.load _ _, _, _, _, _⟩ :: _)); refine st_y (y_loadb 0 tabs rfl rfl rfl rfl) rfl ?_)
       | (show AT _ _ _ (wpList _ _ _ (⟨_, Op.call _, _, _, _, _⟩ :: _)); first | (refine m_call (ent_of Try.func156 (by kernel_rfl) rfl) rfl rfl (fun w c => kernel_ok (R := C) (C := (A ++ B).length) (c.own_rd (i := 1) rfl) hF (by omega) (by omega) hFK) ?_; rintro v H' ⟨ak, ck, rfl, hsk, rfl⟩) | refine st_y (y_len tabs rfl rfl) rfl ?_))
    | (show AT _ _ _ (wpList _ _ _ []); refine c_nil (x_then ?_))
    | (show AT _ _ _ (Code.wp _ _ _); first | refine c_seq ?_ | refine c_region ?_ | refine c_block ?_)
    | (show AT _ _ _ _; refine x_then ?_))
  have hKr : RowsP p (A ++ B).length (meeK p C (A ++ B)) := kerL_rows (by omega)
  have hKl := meeK_len (p := p) (C := C) (M := A ++ B)
  have eK : kerL p (A ++ B).length (redTo p C (fromF (A ++ B)) (A ++ B).length).1 (redTo p C (fromF (A ++ B)) (A ++ B).length).2 (freeN (redTo p C (fromF (A ++ B)) (A ++ B).length).2 (A ++ B).length) = meeK p C (A ++ B) := rfl
  rw [eK] at hsk ⊢
  unfold meeL
  generalize meeK p C (A ++ B) = K at *
  refine AT.opn 0 rfl (fun us hus => ?_)
  rw [rowT_map, List.length_map] at hus
  rw [rowT_map]
  refine c_loopH (α := Nat × Option Addr × Nat) [0, 4, 6, 25, 26] (fun s => [(8, .slice s.2.1 s.1 s.2.2), (27, .int .i64 s.1)]) (fun s => s.1 ≤ K.length) (fun s => [.own (rowsT 22 (rowL C (mulF p A.length (rowsF K) (rowsF A)) s.1)) (.slice s.2.1 s.1 s.2.2), .own (.s 22 1 (us.map T.c)) (.slice ak K.length ck), .ownL (K.map iT) us, .blk b6 #[.int .i64 0, .slice none 0 0] 61, .blk b5 #[iV C, .slice aa A.length ca] 61]) (fun s => K.length - s.1) (0, none, 0) rfl (by repeat' (first | exact Sub.nil | refine Sub.cons rfl ?_ | refine Sub.consi rfl (by omega) ?_)) ?_ ?_ ?_
  · exact Nat.zero_le _
  · exact fun w' c' => Hp.nilp _ _ (c'.sub (by repeat' first | exact List.Sublist.refl _ | exact List.nil_sublist _ | apply List.Sublist.cons_cons | apply List.Sublist.cons))
  · rintro ⟨i, al, cl⟩ hi
    simp only at hi ⊢
    by_cases hin : i < K.length
    · obtain ⟨ks, hks⟩ : ∃ ks, K[i]? = some ks := ⟨_, List.getElem?_eq_getElem hin⟩
      obtain ⟨uk, huk⟩ : ∃ uk, us[i]? = some uk := ⟨_, List.getElem?_eq_getElem (by omega)⟩
      obtain ⟨hkl, hki⟩ := hKr ks (List.mem_of_getElem? hks)
      have hki' : (K.map iT)[i]? = some (iT ks) := by rw [List.getElem?_map, hks]; rfl
      refine AT.fact (fun w' c' => rd_sl (Hp.ownL_rd 2 rfl hki' huk c')) (fun hsu => ?_)
      obtain ⟨a7, c7, rfl, hs7⟩ := hsu
      rw [hkl] at hs7 huk
      have hkF : ∀ k, rowsF K i k = ks.getD k 0 := fun k => by simp [rowsF, List.getD, hks]
      repeat' (first
        | (show AT _ _ _ (wpList _ _ _ (_ :: _)); first
           | (show AT _ _ _ (wpList _ _ _ (⟨_, Op.move _, _, _, _, _⟩ :: _)); refine st_y (y_move rfl) rfl ?_)
           | (show AT _ _ _ (wpList _ _ _ (⟨_, Op.assign _, _, _, _, _⟩ :: _)); refine st_y (y_assign rfl) rfl ?_)
           | (show AT _ _ _ (wpList _ _ _ (⟨_, Op.fieldAddr _ _ _, _, _, _, _⟩ :: _)); refine st_y (y_field tabs rfl rfl rfl) rfl ?_)
           | (show AT _ _ _ (wpList _ _ _ (⟨_, Op.load _ _, _, _, _, _⟩ :: _)); first | refine st_y (y_load tabs rfl rfl (hc_nm 1 rfl huk)) rfl ?_ | refine st_y (y_load tabs rfl rfl (hc_blk 4 rfl rfl)) rfl ?_ | refine st_y (y_load tabs rfl rfl (hc_blk 5 rfl rfl)) rfl ?_)
           | (show AT _ _ _ (wpList _ _ _ (⟨_, Op.indexAddr _ _ _, _, _, _, _⟩ :: _)); refine st_y (y_ix1 tabs (j := i) rfl rfl rfl hsk rfl hin) rfl ?_)
           | (show AT _ _ _ (wpList _ _ _ (⟨_, Op.binOp _ _ _ _ _, _, _, _, _⟩ :: _)); refine st_y (y_lss rfl rfl) rfl ?_)
           | (show AT _ _ _ (wpList _ _ _ (⟨_, Op.call _, _, _, _, _⟩ :: _)); refine st_y (y_len tabs rfl rfl) rfl ?_)
           | (show AT _ _ _ (wpList _ _ _ (⟨_, Op.makeSlice _ _ _, _, _, _, _⟩ :: _)); refine m_maken tabs (m := C) rfl rfl rfl rfl (by omega) rfl (fun g3 hg3 => ?_)))
        | (show AT _ _ _ (wpList _ _ _ []); refine c_nil (x_then ?_))
        | (show AT _ _ _ (Code.wp _ _ _); first | refine c_seq ?_ | refine c_region ?_ | refine c_skip (x_then ?_) | refine c_block ?_ | refine c_ift rfl (by first | assumption | omega) ?_))
      rw [mkv_zero]
      refine c_loopH (α := Nat) [0, 4, 6, 8, 10, 11, 25, 26, 27, 35, 36] (fun k => [(37, .int .i64 k)]) (fun k => k ≤ A.length) (fun k => [.own (iT (mkv C (fun j => accF p (rowsF K) (rowsF A) i j k))) (.slice (some ⟨g3, 0, none⟩) C C), .own (rowsT 22 (rowL C (mulF p A.length (rowsF K) (rowsF A)) i)) (.slice al i cl), .own (.s 22 1 (us.map T.c)) (.slice ak K.length ck), .ownL (K.map iT) us, .blk b6 #[.int .i64 0, .slice none 0 0] 61, .blk b5 #[iV C, .slice aa A.length ca] 61]) (fun k => A.length - k) 0 rfl (by repeat' (first | exact Sub.nil | refine Sub.cons rfl ?_ | refine Sub.consi rfl (by omega) ?_)) ?_ ?_ ?_
      · exact Nat.zero_le _
      · exact fun w' c' => c'
      · intro k hk
        by_cases hkA : k < A.length
        · obtain ⟨ys, hy⟩ : ∃ ys, A[k]? = some ys := ⟨_, List.getElem?_eq_getElem hkA⟩
          obtain ⟨a2, c2, g1, g2⟩ := hga k ys hy
          obtain ⟨hyl, hyi⟩ := hA _ (List.mem_of_getElem? hy)
          have hyF : ∀ j, rowsF A k j = ys.getD j 0 := fun j => by simp [rowsF, List.getD, hy]
          rw [hyl] at g1 g2
          obtain ⟨_, _, e2, hs2, _⟩ := g2.ints
          rw [hyl] at hs2 e2
          cases e2
          have hkl2 : k < ks.length := by omega
          have hk7 : k < (A ++ B).length := by omega
          have hkb := inP_get hki hkl2
          have hacc := fun j => accF_in (p := p) (f := rowsF K) (g := rowsF A) (i := i) (j := j) (by omega) k
          repeat' (first
            | (show AT _ _ _ (wpList _ _ _ (_ :: _)); first
               | (show AT _ _ _ (wpList _ _ _ (⟨_, Op.move _, _, _, _, _⟩ :: _)); refine st_y (y_move rfl) rfl ?_)
               | (show AT _ _ _ (wpList _ _ _ (⟨_, Op.assign _, _, _, _, _⟩ :: _)); refine st_y (y_assign rfl) rfl ?_)
               | (show AT _ _ _ (wpList _ _ _ (⟨_, Op.load _ _, _, _, _, _⟩ :: _)); first | refine st_y (y_load tabs rfl rfl (hc_w0 g1)) rfl ?_ | refine st_y (y_load tabs rfl rfl (fun w c => (hc_row (Hp.ownL_rd 3 rfl hki' huk c) hkl2))) rfl ?_)
               | (show AT _ _ _ (wpList _ _ _ (⟨_, Op.indexAddr _ _ _, _, _, _, _⟩ :: _)); first | refine st_y (y_ix1 tabs (j := k) rfl rfl rfl hsa rfl hkA) rfl ?_ | refine st_y (y_ix1 tabs (j := k) rfl rfl rfl hs7 rfl hk7) rfl ?_)
               | (show AT _ _ _ (wpList _ _ _ (⟨_, Op.binOp _ _ _ _ _, _, _, _, _⟩ :: _)); first | refine st_y (y_add rfl rfl (by omega)) rfl ?_ | refine st_y (y_lss rfl rfl) rfl ?_)
               | (show AT _ _ _ (wpList _ _ _ (⟨_, Op.call _, _, _, _, _⟩ :: _)); (refine m_callL 0 (ent_of Try.func157 (by kernel_rfl) rfl) rfl rfl rfl (fun w M' hl2 => addMultiple_ok (o := 0) (n := C) (ys := ys) hF (by omega) hl2 (fun h => rfl) (by rw [mkv_length]; omega) (by omega) (fun j hj => by rw [Nat.zero_add, mkv_get hj]; have := hacc j; omega) (fun j hj => by have := inP_get hyi (i := j) (by omega); omega) hs2 (fun w' xs' c' hxl hxo j hj => by have h := (RdOut.rd (hl2.old g2) c').ints; obtain ⟨_, _, e, _, _, _, hh⟩ := h; cases e; exact hh j (by omega))) ?_; rintro v H' ⟨rfl, rfl⟩)))
            | (show AT _ _ _ (wpList _ _ _ []); first | refine c_nil (x_then ?_) | refine c_nil ?_)
            | (show AT _ _ _ (Code.wp _ _ _); first | refine c_seq ?_ | refine c_region ?_ | refine c_skip (x_then ?_) | refine c_block ?_ | refine c_ift rfl (by first | assumption | omega) ?_)
            | (show AT _ _ _ _; first | refine x_then ?_ | refine x_blk ?_))
          refine x_nx (k + 1) (by repeat' (first | exact Sub.nil | refine Sub.cons rfl ?_ | refine Sub.consi rfl (by omega) ?_)) (by omega) (fun w' c' => ?_) (by omega)
          rw [addTo_mkv] at c'
          have e0 : mkv C (fun b => (accF p (rowsF K) (rowsF A) i b k + ks.getD k 0 * ys.getD b 0) % p) = mkv C (fun j => accF p (rowsF K) (rowsF A) i j (k + 1)) := mkv_ext (fun b hb => by simp only [accF, hyF, hkF])
          rw [e0] at c'
          exact c'
        · have : k = A.length := by omega
          subst this
          repeat' (first
            | (show AT _ _ _ (wpList _ _ _ (_ :: _)); first
               | (show AT _ _ _ (wpList _ _ _ (⟨_, Op.move _, _, _, _, _⟩ :: _)); refine st_y (y_move rfl) rfl ?_)
               | (show AT _ _ _ (wpList _ _ _ (⟨_, Op.assign _, _, _, _, _⟩ :: _)); refine st_y (y_assign rfl) rfl ?_)
               | (show AT _ _ _ (wpList _ _ _ (⟨_, Op.binOp _ _ _ _ _, _, _, _, _⟩ :: _)); first | refine st_y (y_add rfl rfl (by omega)) rfl ?_ | refine st_y (y_lss rfl rfl) rfl ?_)
               | (show AT _ _ _ (wpList _ _ _ (⟨_, Op.call _, _, _, _, _⟩ :: _)); refine m_push1 [] 0 0 tabs (m' := i) rfl rfl rfl rfl rfl rfl rfl (by simp [rowT_map]) (by simp [rowT_map]; omega) (by decide) rfl rfl (fun a10 c10 => ?_))
               | (show AT _ _ _ (wpList _ _ _ (⟨_, Op.buildSlice _ _ _, _, _, _, _⟩ :: _)); refine m_build1 tabs (us := [.slice (some ⟨g3, 0, none⟩) C C]) rfl rfl rfl rfl (by decide) rfl (fun g5 hg5 => ?_)))
            | (show AT _ _ _ (wpList _ _ _ []); first | refine c_nil (x_then ?_) | refine c_nil ?_)
            | (show AT _ _ _ (Code.wp _ _ _); first | refine c_seq ?_ | refine c_region ?_ | refine c_exit ?_ | refine c_iff rfl (by first | assumption | exact not_not_intro (by assumption) | omega) ?_)
            | (show AT _ _ _ _; first | refine x_then ?_ | refine x_then_exit ?_ | refine x_blk_exit rfl ?_ | refine x_blk ?_))
          refine x_nx (i + 1, a10, c10) (by repeat' (first | exact Sub.nil | refine Sub.cons rfl ?_ | refine Sub.consi rfl (by omega) ?_)) (by simp only; omega) (fun w' c' => ?_) (by simp only; omega)
          have e0 : mkv C (fun j => accF p (rowsF K) (rowsF A) i j A.length) = mkv C (mulF p A.length (rowsF K) (rowsF A) i) := rfl
          rw [e0, rowL_nextT] at c'
          exact c'
    · have : i = K.length := by omega
      subst this
      have hml : (rowL C (mulF p A.length (rowsF K) (rowsF A)) K.length).length ≤ 64 := by rw [rowL_length]; omega
      have hmr : RowsP p C (rowL C (mulF p A.length (rowsF K) (rowsF A)) K.length) := fun xs h => by
        simp only [rowL, List.mem_map] at h
        obtain ⟨i, _, rfl⟩ := h
        refine ⟨by simp, fun x hx => ?_⟩
        obtain ⟨q, _, rfl⟩ := List.mem_map.1 hx
        have := accF_in (p := p) (f := rowsF K) (g := rowsF A) (i := i) (j := q) (by omega) A.length
        unfold mulF
        omega
      repeat' (first
        | (show AT _ _ _ (wpList _ _ _ (_ :: _)); first
           | (show AT _ _ _ (wpList _ _ _ (⟨_, Op.move _, _, _, _, _⟩ :: _)); refine st_y (y_move rfl) rfl ?_)
           | (show AT _ _ _ (wpList _ _ _ (⟨_, Op.fieldAddr _ _ _, _, _, _, _⟩ :: _)); refine st_y (y_field tabs rfl rfl rfl) rfl ?_)
           | (show AT _ _ _ (wpList _ _ _ (⟨_, Op.load _ _, _, _, _, _⟩ :: _)); refine st_y (y_load tabs rfl rfl (hc_blk 4 rfl rfl)) rfl ?_)
           | (show AT _ _ _ (wpList _ _ _ (⟨_, Op.binOp _ _ _ _ _, _, _, _, _⟩ :: _)); refine st_y (y_lss rfl rfl) rfl ?_)
           | (show AT _ _ _ (wpList _ _ _ (⟨_, Op.call _, _, _, _, _⟩ :: _)); (refine m_call (ent_of Try.func151 (by kernel_rfl) rfl) rfl rfl (fun w c => by have h := span_ok (rs := rowL C (mulF p A.length (rowsF K) (rowsF A)) K.length) (c.own_rd (i := 0) rfl) hF hmr hml hC; exact h) ?_; rintro v H' ⟨a9, c9, rfl, hs9, rfl⟩))
           | (show AT _ _ _ (wpList _ _ _ (⟨_, Op.store _ _ _, _, _, _, _⟩ :: _)); refine m_storeb 4 tabs rfl rfl rfl rfl rfl rfl rfl ?_))
        | (show AT _ _ _ (wpList _ _ _ []); refine c_nil (x_then ?_))
        | (show AT _ _ _ (Code.wp _ _ _); first | refine c_seq ?_ | refine c_region ?_ | refine c_ret ?_ | refine c_exit ?_ | refine c_iff rfl (by first | assumption | exact not_not_intro (by assumption) | omega) ?_)
        | (show AT _ _ _ _; first | refine x_then ?_ | refine x_then_exit ?_ | refine x_blk_exit rfl ?_))
      exact x_ret1 Try.results112 (res_cellb 4 tabs rfl rfl rfl rfl) (fun w' c' => ⟨_, _, rfl, ⟨a9, c9, rfl, hs9, rfl⟩, c'.sub (.cons_cons _ (List.nil_sublist _))⟩)
end Go.Proofs.Ytnmhdmkfhacdbaa
