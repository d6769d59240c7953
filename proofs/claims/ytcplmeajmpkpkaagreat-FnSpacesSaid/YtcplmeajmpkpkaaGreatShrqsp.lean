import Derived.Test.YtcplmeajmpkpkaaGreatLDqsp
import Derived.Test.YtcplmeajmpkpkaaGreatMxfqsp
import Derived.Test.YtcplmeajmpkpkaaGreatSpaqsp
import Derived.Test.YtcplmeajmpkpkaaGreatSpmqsp
namespace Go.Proofs.YtcplmeajmpkpkaaGreat
open Go.Lg Go.Proofs Go.RowKit
attribute [local irreducible] Code.wp wpList bodyPost Exit.then Exit.inBlock Hp Again Calls Y AT ResV QT Qn QI wpAny wpAnyQ
set_option maxRecDepth 20000
set_option maxHeartbeats 4000000

theorem GrowI_ok {w : World} {n : Nat} (hn : n ≤ 1048576) : Does Tryz.prog 128 [.slice none 0 0, iV n] w (fun r H => ∃ a c, r = .slice a 0 c ∧ H = [.own (iT []) (.slice a 0 c)]) := by
  by_cases h0 : 0 < n
  · refine fn_enter Tryz.func128 rfl Tryz.ntmps128 rfl ?_
    repeat' (first | (show oL; first | refine sMv rfl rfl ?_ | refine sAs rfl rfl ?_ | (show oA (.binOp _ _ _ _ _); first | refine st_y (y_sub rfl rfl om) rfl ?_ | refine sLs rfl rfl rfl ?_ | refine st_y (y_gtr rfl rfl) rfl ?_) | (show oA (.call _); first | refine st_y (y_cap tabs rfl rfl) rfl ?_ | refine m_zeros tabs Tryz.underlying3 (nn := n) rfl rfl rfl om h0 om (by decide) rfl (fun g c hg hc => ?_) | refine sLn tabs rfl rfl rfl ?_) | (show oA (.slice _ _ _ _ _); first | refine st_y (y_sln tabs rfl rfl rfl) rfl ?_ | refine st_y (y_sl0 tabs rfl rfl rfl) rfl ?_)) | refine xNt ?_ | (show oC; first | refine c_seq ?_ | refine c_region ?_ | refine c_skip (x_then ?_) | refine c_ret ?_ | refine c_false rfl ?_ | refine c_ift rfl aO ?_))
    exact x_ret1 Tryz.results128 (res_tmp rfl) (fun w' c' => ⟨_, _, rfl, ⟨_, _, rfl, rfl⟩, c'⟩)
  · have : n = 0 := by omega
    subst this
    refine fn_enter Tryz.func128 rfl Tryz.ntmps128 rfl ?_
    repeat' (first | (show oL; first | refine sMv rfl rfl ?_ | refine sAs rfl rfl ?_ | (show oA (.binOp _ _ _ _ _); first | refine st_y (y_sub rfl rfl om) rfl ?_ | refine sLs rfl rfl rfl ?_ | refine st_y (y_gtr rfl rfl) rfl ?_) | (show oA (.call _); first | refine st_y (y_cap tabs rfl rfl) rfl ?_ | refine sLn tabs rfl rfl rfl ?_)) | refine xNt ?_ | (show oC; first | refine c_seq ?_ | refine c_region ?_ | refine c_skip (x_then ?_) | refine c_ret ?_ | refine c_false rfl ?_))
    exact x_ret1 Tryz.results128 (res_tmp rfl) (fun w' c' => ⟨_, _, rfl, ⟨_, _, rfl, rfl⟩, Hp.nilp _ _ c'⟩)
theorem GrowR_ok {w : World} {n : Nat} (hn : n ≤ 1048576) : Does Tryz.prog 109 [.slice none 0 0, iV n] w (fun r H => ∃ a c, r = .slice a 0 c ∧ H = [.own (.s 43 1 []) (.slice a 0 c)]) := by
  by_cases h0 : 0 < n
  · refine fn_enter Tryz.func109 rfl Tryz.ntmps109 rfl ?_
    repeat' (first | (show oL; first | refine sMv rfl rfl ?_ | refine sAs rfl rfl ?_ | (show oA (.binOp _ _ _ _ _); first | refine st_y (y_sub rfl rfl om) rfl ?_ | refine sLs rfl rfl rfl ?_ | refine st_y (y_gtr rfl rfl) rfl ?_) | (show oA (.call _); first | refine st_y (y_cap tabs rfl rfl) rfl ?_ | refine m_zeros tabs Tryz.underlying3 (nn := n) rfl rfl rfl om h0 om (by decide) rfl (fun g c hg hc => ?_) | refine sLn tabs rfl rfl rfl ?_) | (show oA (.slice _ _ _ _ _); first | refine st_y (y_sln tabs rfl rfl rfl) rfl ?_ | refine st_y (y_sl0 tabs rfl rfl rfl) rfl ?_)) | refine xNt ?_ | (show oC; first | refine c_seq ?_ | refine c_region ?_ | refine c_skip (x_then ?_) | refine c_ret ?_ | refine c_false rfl ?_ | refine c_ift rfl aO ?_))
    exact x_ret1 Tryz.results109 (res_tmp rfl) (fun w' c' => ⟨_, _, rfl, ⟨_, _, rfl, rfl⟩, c'⟩)
  · have : n = 0 := by omega
    subst this
    refine fn_enter Tryz.func109 rfl Tryz.ntmps109 rfl ?_
    repeat' (first | (show oL; first | refine sMv rfl rfl ?_ | refine sAs rfl rfl ?_ | (show oA (.binOp _ _ _ _ _); first | refine st_y (y_sub rfl rfl om) rfl ?_ | refine sLs rfl rfl rfl ?_ | refine st_y (y_gtr rfl rfl) rfl ?_) | (show oA (.call _); first | refine st_y (y_cap tabs rfl rfl) rfl ?_ | refine sLn tabs rfl rfl rfl ?_)) | refine xNt ?_ | (show oC; first | refine c_seq ?_ | refine c_region ?_ | refine c_skip (x_then ?_) | refine c_ret ?_ | refine c_false rfl ?_))
    exact x_ret1 Tryz.results109 (res_tmp rfl) (fun w' c' => ⟨_, _, rfl, ⟨_, _, rfl, rfl⟩, Hp.nilp _ _ c'⟩)
def flN {α : Type} (rs : List (List α)) (i : Nat) : Nat := (rs.take i).flatten.length
theorem flN_next {α : Type} {rs : List (List α)} {i : Nat} {xs : List α} (h : rs[i]? = some xs) : flN rs (i + 1) = flN rs i + xs.length := by
  unfold flN
  rw [List.take_add_one, h]
  simp
theorem flN_le {α : Type} (rs : List (List α)) (i : Nat) : flN rs i ≤ rs.flatten.length := by
  unfold flN
  have : rs.flatten = (rs.take i).flatten ++ (rs.drop i).flatten := by rw [← List.flatten_append, List.take_append_drop]
  rw [this, List.length_append]; omega
theorem take_flat {α : Type} {rs : List (List α)} {i : Nat} {xs : List α} (h : rs[i]? = some xs) : (rs.take (i + 1)).flatten = (rs.take i).flatten ++ xs := by
  rw [List.take_add_one, h]
  simp
theorem ConcatI_ok {w : World} {e : Nat} {rs : List (List Int)} {v : Value} (hr : Rd w (rowsT e rs) v) (hb : rs.flatten.length ≤ 1048576) : Does Tryz.prog 115 [v] w (fun r H => Gives (iT rs.flatten) rs.flatten.length r H) := by
  obtain ⟨a, c, rfl, hs, hc1, hc2, hget⟩ := rd_rows hr
  unfold maxLen at hc2
  refine fn_enter Tryz.func115 rfl Tryz.ntmps115 rfl ?_
  repeat' (first | (show oL; first | refine sMv rfl rfl ?_ | refine sAs rfl rfl ?_ | refine sLn tabs rfl rfl rfl ?_) | refine xNt ?_ | (show oC; first | refine c_seq ?_ | refine c_region ?_ | refine c_block ?_))
  refine c_loopH (α := Nat) [0, 9, 10] (fun i => [(3, .int .i64 (flN rs i)), (11, .int .i64 i)]) (fun i => i ≤ rs.length) (fun i => []) (fun i => rs.length - i) 0 rfl sB ?_ ?_ ?_
  · exact Nat.zero_le _
  · exact fun w' c' => c'
  · intro i hi
    by_cases hin : i < rs.length
    · obtain ⟨xs, hx⟩ : ∃ xs, rs[i]? = some xs := ⟨_, List.getElem?_eq_getElem hin⟩
      obtain ⟨a2, c2, g1, g2⟩ := hget i xs hx
      have hnx := flN_next hx
      have hle := flN_le rs (i + 1)
      repeat' (first | (show oL; first | refine sMv rfl rfl ?_ | refine sAs rfl rfl ?_ | (show oA (.load _ _); refine st_y (y_load tabs rfl rfl (hc_w0 g1)) rfl ?_) | (show oA (.indexAddr _ _ _); refine st_y (y_ix1 tabs (j := i) rfl rfl rfl hs rfl hin) rfl ?_) | (show oA (.binOp _ _ _ _ _); first | refine sAd rfl rfl om rfl ?_ | refine sLs rfl rfl rfl ?_) | refine sLn tabs rfl rfl rfl ?_) | refine xNt ?_ | (show oC; first | refine c_seq ?_ | refine c_region ?_ | refine c_skip (x_then ?_) | refine c_skip (x_blk ?_) | refine c_block ?_ | refine c_false rfl ?_ | refine c_ift rfl aO ?_) | (show AT _ _ _ _; refine x_then ?_))
      exact x_nx (i + 1) sB om (fun w' c' => c') om
    · have : i = rs.length := by omega
      subst this
      have hfl : flN rs rs.length = rs.flatten.length := by unfold flN; rw [List.take_length]
      have hf2 : ((flN rs rs.length : Nat) : Int) = ((rs.flatten.length : Nat) : Int) := by rw [hfl]
      repeat' (first | (show oL; first | refine sMv rfl rfl ?_ | refine sAs rfl rfl ?_ | refine sLs rfl rfl rfl ?_ | (show oA (.call _); first | (refine m_call (ent_of Tryz.func128 kr rfl) rfl rfl (fun w c => by rw [hf2]; exact GrowI_ok hb) ?_; rintro v H' ⟨ag, cg, rfl, rfl⟩) | refine sLn tabs rfl rfl rfl ?_)) | refine xNt ?_ | (show oC; first | refine c_seq ?_ | refine c_region ?_ | refine c_block ?_ | refine c_exit ?_ | refine c_iff rfl nN ?_) | (show AT _ _ _ _; first | refine x_then ?_ | refine x_then_exit ?_ | refine x_blk_exit rfl ?_))
      refine c_loopH (α := Nat × Option Addr × Nat) [25, 26] (fun q => [(6, .slice q.2.1 (flN rs q.1) q.2.2), (27, .int .i64 q.1)]) (fun q => q.1 ≤ rs.length) (fun q => [.own (iT (rs.take q.1).flatten) (.slice q.2.1 (flN rs q.1) q.2.2)]) (fun q => rs.length - q.1) (0, ag, cg) rfl sB ?_ ?_ ?_
      · exact Nat.zero_le _
      · exact fun w' c' => c'
      · rintro ⟨i, al, cl⟩ hi
        simp only at hi ⊢
        by_cases hin : i < rs.length
        · obtain ⟨xs, hx⟩ : ∃ xs, rs[i]? = some xs := ⟨_, List.getElem?_eq_getElem hin⟩
          obtain ⟨a2, c2, g1, g2⟩ := hget i xs hx
          have hnx := flN_next hx
          have hle := flN_le rs (i + 1)
          repeat' (first | (show oL; first | refine sMv rfl rfl ?_ | refine sAs rfl rfl ?_ | (show oA (.load _ _); refine st_y (y_load tabs rfl rfl (hc_w0 g1)) rfl ?_) | (show oA (.indexAddr _ _ _); refine st_y (y_ix1 tabs (j := i) rfl rfl rfl hs rfl hin) rfl ?_) | (show oA (.binOp _ _ _ _ _); first | refine sAd rfl rfl om rfl ?_ | refine sLs rfl rfl rfl ?_) | (show oA (.call _); refine m_appi 0 tabs (xs := (rs.take i).flatten) rfl rfl rfl rfl rfl (by have : (rs.take i).flatten.length = flN rs i := rfl; omega) (fun w c => rd_src (c.rd g2)) (fun a3 c3 => ?_))) | (show oN; first | refine c_nil (x_then ?_) | refine c_nil ?_) | (show oC; first | refine c_seq ?_ | refine c_region ?_ | refine c_skip (x_then ?_) | refine c_block ?_ | refine c_ift rfl aO ?_) | (show AT _ _ _ _; first | refine x_then ?_ | refine x_blk ?_))
          refine x_nx (i + 1, a3, c3) (by rw [hnx]; exact sB) (by simp only; omega) (fun w' c' => ?_) (by simp only; omega)
          simp only [take_flat hx, hnx]
          exact c'
        · have : i = rs.length := by omega
          subst this
          rw [List.take_length, hfl]
          refine AT.fact (own_sl 0 rfl) (fun hsl => ?_)
          obtain ⟨a3, c3, e3, hs3⟩ := hsl
          cases e3
          repeat' (first | (show oL; first | refine sMv rfl rfl ?_ | refine sAs rfl rfl ?_ | refine sLs rfl rfl rfl ?_) | refine xNt ?_ | (show oC; first | refine c_seq ?_ | refine c_region ?_ | refine c_ret ?_ | refine c_exit ?_ | refine c_iff rfl nN ?_) | (show AT _ _ _ _; first | refine x_then ?_ | refine x_then_exit ?_ | refine x_blk_exit rfl ?_))
          exact x_ret1 Tryz.results115 (res_tmp rfl) (fun w' c' => ⟨_, _, rfl, ⟨_, _, rfl, hs3, rfl⟩, c'⟩)
def rowsF (rs : List (List Int)) : Nat → Nat → Int := fun i j => (rs.getD i []).getD j 0
theorem flat_mk {C : Nat} : ∀ {rs : List (List Int)}, (∀ xs ∈ rs, xs.length = C) → rs.flatten = mk rs.length C (rowsF rs) := fun {rs} h => by
  have hl : ∀ {l : List (List Int)}, (∀ xs ∈ l, xs.length = C) → l.flatten.length = l.length * C := fun {l} h => by
    induction l with
    | nil => simp
    | cons x l ih =>
      rw [List.flatten_cons, List.length_append, ih (fun y hy => h y (List.mem_cons_of_mem _ hy)), h x (List.mem_cons_self ..), List.length_cons, Nat.succ_mul]; omega
  have key : ∀ {l : List (List Int)}, (∀ xs ∈ l, xs.length = C) → ∀ i j, i < l.length → j < C → l.flatten.getD (i * C + j) 0 = rowsF l i j := fun {l} h => by
    induction l with
    | nil => intro i j hi; simp at hi
    | cons x l ih =>
      intro i j hi hj
      have hx := h x (List.mem_cons_self ..)
      rw [List.flatten_cons]
      cases i with
      | zero =>
        simp only [Nat.zero_mul, Nat.zero_add, rowsF, List.getD_eq_getElem?_getD, List.getElem?_append]
        rw [if_pos om]
        simp
      | succ i =>
        have := ih (fun y hy => h y (List.mem_cons_of_mem _ hy)) i j (by simpa using hi) hj
        simp only [rowsF, List.getD_eq_getElem?_getD, List.getElem?_append] at this ⊢
        rw [Nat.succ_mul, if_neg om, show i * C + C + j - x.length = i * C + j by omega, this]
        simp
  rw [mk_of (hl h)]
  exact mk_ext (fun i j hi hj => key h i j hi hj)
theorem bld_mat2 (r k : Int) (a : Option Addr) (m c : Nat) (w : World) : (Instr.build 47 #[(0, iV r), (1, iV k), (2, .slice a m c)]).run Tryz.prog w = .ok (.agg #[iV r, iV k, .slice a m c]) w := by kernel_rfl
theorem fromRows_ok {w : World} {e C : Nat} {rs : List (List Int)} {v : Value} (hr : Rd w (rowsT e rs) v) (hl : ∀ xs ∈ rs, xs.length = C) (hb : rs.length ≤ 1024) (hC : C ≤ 1024) : Does Tryz.prog 88 [iV C, v] w (GivesK rs.length C (rowsF rs)) := by
  obtain ⟨a, c, rfl, hs, hc1, hc2, hget⟩ := rd_rows hr
  have hfl := flat_mk hl
  have hRC := rc_le hb hC
  have hfn : rs.flatten.length = rs.length * C := by rw [hfl, mk_length]
  refine fn_enter Tryz.func88 rfl Tryz.ntmps88 rfl ?_
  repeat' (first | (show oL; first | refine sMv rfl rfl ?_ | (show oA (.call _); first | (refine m_call (ent_of Tryz.func115 kr rfl) rfl rfl (fun w c => ConcatI_ok (c.rd hr) om) ?_; rintro v H' ⟨a2, c2, rfl, hs2, rfl⟩) | refine sLn tabs rfl rfl rfl ?_) | (show oA (.store _ _ _); refine m_storeb 1 tabs rfl rfl rfl rfl rfl rfl rfl ?_) | (show oA (.alloc _); refine m_alloc tabs rfl rfl (fun bq hbq => ?_)) | (show oA (.build _ _); refine st_y (y_bld3 (bld_mat2 _ _ _ _ _) rfl rfl rfl) rfl ?_)) | refine xNt ?_ | (show oC; first | refine c_seq ?_ | refine c_region ?_ | refine c_ret ?_))
  rw [hfn, hfl] at *
  exact x_ret1 Tryz.results88 (res_cellb 1 tabs rfl rfl rfl rfl) (fun w' c' => ⟨_, _, rfl, ⟨_, _, rfl, hs2, rfl⟩, c'.sub (.cons_cons _ (List.nil_sublist _))⟩)
def NamesAt (w : World) (v : Value) (us : List Value) : Prop := ∃ a c, v = .slice a us.length c ∧ us.length ≤ 1048576 ∧ (us.length = 0 ∨ a = some ⟨ab a, ao a, none⟩) ∧ (∀ (j : Nat) u, us[j]? = some u → w.cell? ⟨ab a, ao a + j, none⟩ = some u) ∧ ∀ u ∈ us, u.oneCell' = true
theorem NamesAt.rd {w w' : World} {H : List HE} {v : Value} {us : List Value} (h : NamesAt w v us) (c : Hp [] w H w') : NamesAt w' v us := by
  obtain ⟨a, cc, h1, h2, h3, h4, h5⟩ := h
  exact ⟨a, cc, h1, h2, h3, fun j u hu => c.cell (h4 j u hu), h5⟩
theorem rd_oneCell {w : World} {e k : Nat} {ts : List T} {v : Value} (h : Rd w (.s e k ts) v) : v.oneCell' = true := by
  simp only [Rd] at h
  obtain ⟨a, n, c, rfl, _⟩ := h
  rfl
theorem rdC_oneCell {w : World} {rs : List (List Int)} {us : List Value} (h : RdC w (rs.map iT) us) : ∀ u ∈ us, u.oneCell' = true := fun u hu => by
  obtain ⟨j, hj, rfl⟩ := List.getElem_of_mem hu
  have hl := h.1
  simp at hl
  have := h.2 j (iT (rs[j]'om)) us[j] (by simp; exact ⟨_, List.getElem?_eq_getElem om, rfl⟩) (List.getElem?_eq_getElem hj)
  exact rd_oneCell this
theorem rd_names {w : World} {e : Nat} {rs : List (List Int)} {v : Value} (h : Rd w (rowsT e rs) v) (hb : rs.length ≤ 1048576) : ∃ us, NamesAt w v us ∧ RdC w (rs.map iT) us ∧ us.length = rs.length := by
  obtain ⟨a, c, rfl, _⟩ := rd_rows h
  obtain ⟨us, h1, h2, h3, h4⟩ := rd_cells h
  rw [rowT_map] at h2
  have hl : us.length = rs.length := by have := h2.1; simpa using this
  rw [← hl] at h3
  exact ⟨us, ⟨a, c, by rw [hl], by omega, h3, h4, rdC_oneCell h2⟩, h2, hl⟩
theorem ConcatR_ok {w : World} {g : Nat} {L : List (List Value)} (hL : ∀ (i : Nat) us, L[i]? = some us → ∃ u, w.cell? ⟨g, 0 + i, none⟩ = some u ∧ NamesAt w u us) (hb : L.flatten.length ≤ 1048576) (hl : L.length ≤ 1024) :
    Does Tryz.prog 78 [.slice (some ⟨g, 0, none⟩) L.length L.length] w (fun r H => ∃ a c, r = .slice a L.flatten.length c ∧ H = [.own (.s 43 1 (L.flatten.map T.c)) (.slice a L.flatten.length c)]) := by
  refine fn_enter Tryz.func78 rfl Tryz.ntmps78 rfl ?_
  repeat' (first | (show oL; first | refine sMv rfl rfl ?_ | refine sAs rfl rfl ?_ | refine sLn tabs rfl rfl rfl ?_) | refine xNt ?_ | (show oC; first | refine c_seq ?_ | refine c_region ?_ | refine c_block ?_))
  refine c_loopH (α := Nat) [0, 9, 10] (fun i => [(3, .int .i64 (flN L i)), (11, .int .i64 i)]) (fun i => i ≤ L.length) (fun i => []) (fun i => L.length - i) 0 rfl sB ?_ ?_ ?_
  · exact Nat.zero_le _
  · exact fun w' c' => c'
  · intro i hi
    by_cases hin : i < L.length
    · obtain ⟨xs, hx⟩ : ∃ xs, L[i]? = some xs := ⟨_, List.getElem?_eq_getElem hin⟩
      obtain ⟨u, g1, a2, c2, rfl, g2, g3, g4, g5⟩ := hL i xs hx
      have hnx := flN_next hx
      have hle := flN_le L (i + 1)
      repeat' (first | (show oL; first | refine sMv rfl rfl ?_ | refine sAs rfl rfl ?_ | (show oA (.load _ _); refine st_y (y_load tabs rfl rfl (hc_w0 g1)) rfl ?_) | (show oA (.indexAddr _ _ _); refine st_y (y_ixs tabs (j := i) rfl rfl rfl rfl hin) rfl ?_) | (show oA (.binOp _ _ _ _ _); first | refine sAd rfl rfl om rfl ?_ | refine sLs rfl rfl rfl ?_) | refine sLn tabs rfl rfl rfl ?_) | refine xNt ?_ | (show oC; first | refine c_seq ?_ | refine c_region ?_ | refine c_skip (x_then ?_) | refine c_skip (x_blk ?_) | refine c_block ?_ | refine c_false rfl ?_ | refine c_ift rfl aO ?_) | (show AT _ _ _ _; refine x_then ?_))
      exact x_nx (i + 1) sB om (fun w' c' => c') om
    · have : i = L.length := by omega
      subst this
      have hfl : flN L L.length = L.flatten.length := by unfold flN; rw [List.take_length]
      have hf2 : ((flN L L.length : Nat) : Int) = ((L.flatten.length : Nat) : Int) := by rw [hfl]
      repeat' (first | (show oL; first | refine sMv rfl rfl ?_ | refine sAs rfl rfl ?_ | refine sLs rfl rfl rfl ?_ | (show oA (.call _); first | (refine m_call (ent_of Tryz.func109 kr rfl) rfl rfl (fun w c => by rw [hf2]; exact GrowR_ok hb) ?_; rintro v H' ⟨ag, cg, rfl, rfl⟩) | refine sLn tabs rfl rfl rfl ?_)) | refine xNt ?_ | (show oC; first | refine c_seq ?_ | refine c_region ?_ | refine c_block ?_ | refine c_exit ?_ | refine c_iff rfl nN ?_) | (show AT _ _ _ _; first | refine x_then ?_ | refine x_then_exit ?_ | refine x_blk_exit rfl ?_))
      refine c_loopH (α := Nat × Option Addr × Nat) [25, 26] (fun q => [(6, .slice q.2.1 (flN L q.1) q.2.2), (27, .int .i64 q.1)]) (fun q => q.1 ≤ L.length) (fun q => [.own (.s 43 1 ((L.take q.1).flatten.map T.c)) (.slice q.2.1 (flN L q.1) q.2.2)]) (fun q => L.length - q.1) (0, ag, cg) rfl sB ?_ ?_ ?_
      · exact Nat.zero_le _
      · exact fun w' c' => c'
      · rintro ⟨i, al, cl⟩ hi
        simp only at hi ⊢
        by_cases hin : i < L.length
        · obtain ⟨xs, hx⟩ : ∃ xs, L[i]? = some xs := ⟨_, List.getElem?_eq_getElem hin⟩
          obtain ⟨u, g1, a2, c2, rfl, g2, g3, g4, g5⟩ := hL i xs hx
          have hnx := flN_next hx
          have hle := flN_le L (i + 1)
          have hdf : (L.take i).flatten.length = flN L i := rfl
          repeat' (first | (show oL; first | refine sMv rfl rfl ?_ | refine sAs rfl rfl ?_ | (show oA (.load _ _); refine st_y (y_load tabs rfl rfl (hc_w0 g1)) rfl ?_) | (show oA (.indexAddr _ _ _); refine st_y (y_ixs tabs (j := i) rfl rfl rfl rfl hin) rfl ?_) | (show oA (.binOp _ _ _ _ _); first | refine sAd rfl rfl om rfl ?_ | refine sLs rfl rfl rfl ?_) | (show oA (.call _); refine m_apps tabs (us := (L.take i).flatten) (us' := xs) (m' := flN L (i + 1)) rfl rfl rfl rfl rfl g5 om om (by decide) (fun w c => c) (named_src g3 g4) (fun a3 c3 => ?_))) | (show oN; first | refine c_nil (x_then ?_) | refine c_nil ?_) | (show oC; first | refine c_seq ?_ | refine c_region ?_ | refine c_skip (x_then ?_) | refine c_block ?_ | refine c_ift rfl aO ?_) | (show AT _ _ _ _; first | refine x_then ?_ | refine x_blk ?_))
          refine x_nx (i + 1, a3, c3) sB (by simp only; omega) (fun w' c' => ?_) (by simp only; omega)
          simp only [take_flat hx]
          exact c'
        · have : i = L.length := by omega
          subst this
          rw [List.take_length, hfl]
          repeat' (first | (show oL; first | refine sMv rfl rfl ?_ | refine sAs rfl rfl ?_ | refine sLs rfl rfl rfl ?_) | refine xNt ?_ | (show oC; first | refine c_seq ?_ | refine c_region ?_ | refine c_ret ?_ | refine c_exit ?_ | refine c_iff rfl nN ?_) | (show AT _ _ _ _; first | refine x_then ?_ | refine x_then_exit ?_ | refine x_blk_exit rfl ?_))
          exact x_ret1 Tryz.results78 (res_tmp rfl) (fun w' c' => ⟨_, _, rfl, ⟨_, _, rfl, rfl⟩, c'⟩)
end Go.Proofs.YtcplmeajmpkpkaaGreat
