import Derived.Test.YtijjkfbkihgfgaaGreatCgsqsu
import Derived.Test.YtijjkfbkihgfgaaGreatDrtqsu
import Derived.Test.YtijjkfbkihgfgaaGreatDssqsu
import Derived.Test.YtijjkfbkihgfgaaGreatLEqsu
import Derived.Test.YtijjkfbkihgfgaaGreatLwsqsu
import Derived.Test.YtijjkfbkihgfgaaGreatRpsqsu
import Derived.Test.YtijjkfbkihgfgaaGreatSpbqsu
namespace Go.Lg
open Go.RowKit
theorem y_maxn {P : Program} {n : Nat} {C : World → Prop} {s : List (Nat × Value)} {ty : Nat} {x y : Operand} {p q r : Int} {at' : Array Nat} (hx : ev s x = some (.int .i64 p)) (hy : ev s y = some (.int .i64 q)) (h : max p q = r) : Y P n C s (.call ⟨.builtin .max, #[x, y], at'⟩) ty (.int .i64 r) := by
  subst h; exact y_max hx hy
end Go.Lg
namespace Go.Proofs.YtijjkfbkihgfgaaGreat
open Go.Lg Go.Proofs Go.RowKit
attribute [local irreducible] Code.wp wpList bodyPost Exit.then Exit.inBlock Hp Again Calls Y AT ResV QT Qn QI wpAny wpAnyQ
set_option maxRecDepth 20000
set_option maxHeartbeats 4000000

theorem OfG.rep {p : Int} {q : Qv} {u0 u1 v : Value} {H : List HE} (h : OfG p q u0 u1 v H) (hQ : QuivP q) : ∃ r, RepQ q p r ∧ GivesR r v H := by
  rcases h with h | ⟨h, _⟩
  · exact h
  · exact absurd hQ h
def GivesPr (φ : Rp → Rp → Prop) (v : Value) (H : List HE) : Prop := ∃ a b va vb Ha Hb, v = .tuple #[va, vb] ∧ φ a b ∧ GivesR a va Ha ∧ GivesR b vb Hb ∧ H = Hb ++ Ha
structure PairR (a b : Rp) : Prop where
  a : ∃ q p, RepQ q p a
  b : BndR b
theorem l9Pair_ok {w1 : World} {M1 : List Nat} {H1 : List HE} {w : World} {M' : List Nat} {u : Value} {b i : Nat} {h : Int} (hl : Lent M1 w1 (cu u b i h) H1 M' w) (hc : CodeF w1 M1 u) (hi : i ≤ vlen u) :
    DoesB Tryz.prog 170 [cuV b] w M' (Gcu u b (GivesPr PairR)) := by
  have hc2 := lent_code hl hc
  have tok0 : True := trivial
  have tok1 : True := trivial
  have tok2 : True := trivial
  refine fnb_lent Tryz.func170 rfl Tryz.ntmps170 rfl hl ?_
  repeat' (first | (show oL; first | refine sMv rfl rfl ?_ | refine sAs rfl rfl ?_ | refine sLb 0 tabs rfl rfl rfl rfl rfl ?_ | (show oA (.call _); first | (refine m_callL 2 (ent_of Tryz.func187 kr rfl) rfl rfl rfl (fun w M' hl => l8Prime_ok hl hc2 hi) ?_; rintro v H' ⟨i, ch, _, hi, rfl, p, rfl, hp, rfl⟩) | (refine m_callL 0 (ent_of Tryz.func188 kr rfl) rfl rfl rfl (fun w M' hl => l6Acyclic_ok hl hc2 hi) ?_; rintro v H' ⟨i, ch, _, hi, rfl, q, a, c, a', c', rfl, hq, rfl⟩) | (refine m_callL 1 (ent_of Tryz.func189 kr rfl) rfl rfl rfl (fun w M' hl => l8Of_ok (q := q) p 2 (by decide) hl hc2 hi (hl.own 2 rfl) (hl.own 1 rfl)) ?_; rintro v H' ⟨i, ch, H0, hi, rfl, hO⟩; obtain ⟨r, hr, a0, c0, a1, c1, a2, c2, a3, c3, rfl, s0, s1, s2, s3, rfl⟩ := hO.rep hq) | (refine m_callL 1 (ent_of Tryz.func127 kr rfl) rfl rfl rfl (fun w M' hl => l1Once_ok 14 hl hc2 hi) ?_; rintro v H' ⟨i, ch, _, hi, rfl, (_ | _), rfl, rfl⟩)) | (show oA (.store _ _ _); refine m_storeb 0 tabs rfl rfl rfl rfl rfl rfl rfl ?_) | (show oA (.alloc _); first | (have _t := tok0; refine m_alloc tabs rfl rfl (fun b0 hb0 => ?_); clear _t tok0) | (have _t := tok1; refine m_alloc tabs rfl rfl (fun b1 hb1 => ?_); clear _t tok1) | (have _t := tok2; refine m_alloc tabs rfl rfl (fun bq hbq => ?_); clear _t tok2) | refine m_alloc tabs rfl rfl (fun br hbr => ?_))) | refine xNt ?_ | (show oC; first | refine c_seq ?_ | refine c_region ?_ | refine c_skip (x_then ?_) | refine c_true rfl ?_ | refine c_false rfl ?_))
  · skip
    refine AT.cls (C' := Hp _ _ [cu u b i ch, .blk br #[iV r.p, iV r.q.1, .slice a0 r.q.2.1.length c0, .slice a1 r.q.2.2.length c1, .slice a2 r.d.length c2, .slice a3 r.m.length c3] 60, .own (matsT 47 r.m) (.slice a3 r.m.length c3), .own (iT r.d) (.slice a2 r.d.length c2), .own (iT r.q.2.2) (.slice a1 r.q.2.2.length c1), .own (iT r.q.2.1) (.slice a0 r.q.2.1.length c0), .blk bq #[iV q.1, .slice a q.2.1.length c, .slice a' q.2.2.length c'] 57, .own (iT q.2.2) (.slice a' q.2.2.length c'), .own (iT q.2.1) (.slice a q.2.1.length c), .blk b1 #[iV 0, iV 0, .slice none 0 0, .slice none 0 0, .slice none 0 0, .slice none 0 0] 60, .blk b0 #[iV 0, iV 0, .slice none 0 0, .slice none 0 0, .slice none 0 0, .slice none 0 0] 60]) (fun w' c' => c'.sub sL) ?_
    refine c_mixR (Hp M' w [.blk br #[iV r.p, iV r.q.1, .slice a0 r.q.2.1.length c0, .slice a1 r.q.2.2.length c1, .slice a2 r.d.length c2, .slice a3 r.m.length c3] 60, .blk bq #[iV q.1, .slice a q.2.1.length c, .slice a' q.2.2.length c'] 57]) 5 kr kr kr kr kr (fun _ c => Hp.drew c) ?_
    refine h_take 0 rfl kr kr kr (by first | exact y_loadb 0 tabs rfl rfl rfl rfl | exact y_loadb 0 tabs rfl rfl rfl rfl) rfl sS ?_
    refine h_take 1 rfl kr kr kr (by exact y_move rfl) rfl sS ?_
    refine h_take 2 rfl kr kr kr (by exact y_move rfl) rfl sS ?_
    refine h_take 3 rfl kr kr kr (by first | exact y_loadb 1 tabs rfl rfl rfl rfl | exact y_loadb 1 tabs rfl rfl rfl rfl) rfl sS ?_
    refine h_only 4 rfl kr ?_
    (refine m_callL 0 (ent_of Tryz.func189 kr rfl) rfl rfl rfl (fun w M' hl => l8Of_ok (q := q) p 1 (by decide) hl hc2 hi (hl.own 7 rfl) (hl.own 6 rfl)) ?_; rintro v H' ⟨i, ch, H0, hi, rfl, hO⟩; obtain ⟨r', hr', a0', c0', a1', c1', a2', c2', a3', c3', rfl, s0', s1', s2', s3', rfl⟩ := hO.rep hq)
    refine c_nil (x_one (h_keep sS ?_))
    refine h_end kr ?_
    repeat' (first | (show oL; first | (show oA (.store _ _ _); first | refine m_storeb 14 tabs rfl rfl rfl rfl rfl rfl rfl ?_ | refine m_storeb 13 tabs rfl rfl rfl rfl rfl rfl rfl ?_)) | refine xNt ?_ | (show oC; refine c_ret ?_))
    exact x_ret2 Tryz.results170 (res_cellb 14 tabs rfl rfl rfl rfl) (res_cellb 13 tabs rfl rfl rfl rfl) (fun wz cz => ⟨_, _, rfl, ⟨i, ch, _, hi, rfl, r, r', _, _, [.own (matsT 47 r.m) (.slice a3 r.m.length c3), .own (iT r.d) (.slice a2 r.d.length c2), .own (iT r.q.2.2) (.slice a1 r.q.2.2.length c1), .own (iT r.q.2.1) (.slice a0 r.q.2.1.length c0)], [.own (matsT 47 r'.m) (.slice a3' r'.m.length c3'), .own (iT r'.d) (.slice a2' r'.d.length c2'), .own (iT r'.q.2.2) (.slice a1' r'.q.2.2.length c1'), .own (iT r'.q.2.1) (.slice a0' r'.q.2.1.length c0')], rfl, ⟨⟨q, p, hr⟩, hr'.bnd⟩, ⟨a0, c0, a1, c1, a2, c2, a3, c3, rfl, s0, s1, s2, s3, rfl⟩, ⟨a0', c0', a1', c1', a2', c2', a3', c3', rfl, s0', s1', s2', s3', rfl⟩, rfl⟩, cz.sub (.cons_cons _ (.cons_cons _ (.cons_cons _ (.cons_cons _ (.cons_cons _ (.cons _ (.cons_cons _ (.cons_cons _ (.cons_cons _ (.cons_cons _ (List.nil_sublist _)))))))))))⟩)
  · skip
    refine AT.cls (C' := Hp _ _ [cu u b i ch, .blk br #[iV r.p, iV r.q.1, .slice a0 r.q.2.1.length c0, .slice a1 r.q.2.2.length c1, .slice a2 r.d.length c2, .slice a3 r.m.length c3] 60, .own (matsT 47 r.m) (.slice a3 r.m.length c3), .own (iT r.d) (.slice a2 r.d.length c2), .own (iT r.q.2.2) (.slice a1 r.q.2.2.length c1), .own (iT r.q.2.1) (.slice a0 r.q.2.1.length c0), .blk bq #[iV q.1, .slice a q.2.1.length c, .slice a' q.2.2.length c'] 57, .own (iT q.2.2) (.slice a' q.2.2.length c'), .own (iT q.2.1) (.slice a q.2.1.length c), .blk b1 #[iV 0, iV 0, .slice none 0 0, .slice none 0 0, .slice none 0 0, .slice none 0 0] 60, .blk b0 #[iV 0, iV 0, .slice none 0 0, .slice none 0 0, .slice none 0 0, .slice none 0 0] 60]) (fun w' c' => c'.sub sL) ?_
    refine c_mixR (Hp M' w [.blk br #[iV r.p, iV r.q.1, .slice a0 r.q.2.1.length c0, .slice a1 r.q.2.2.length c1, .slice a2 r.d.length c2, .slice a3 r.m.length c3] 60, .blk bq #[iV q.1, .slice a q.2.1.length c, .slice a' q.2.2.length c'] 57]) 3 kr kr kr kr kr (fun _ c => Hp.drew c) ?_
    refine h_take 0 rfl kr kr kr (by first | exact y_loadb 0 tabs rfl rfl rfl rfl | exact y_loadb 0 tabs rfl rfl rfl rfl) rfl sS ?_
    refine h_take 1 rfl kr kr kr (by exact y_move rfl) rfl sS ?_
    refine h_only 2 rfl kr ?_
    (refine m_callL 0 (ent_of Tryz.func168 kr rfl) rfl rfl rfl (fun w M' hl => l8Any_ok hl hc2 hi) ?_; rintro v H' ⟨i, ch, H0, hi, rfl, r', hr', a0', c0', a1', c1', a2', c2', a3', c3', rfl, s0', s1', s2', s3', rfl⟩)
    refine c_nil (x_one (h_keep sS ?_))
    refine h_end kr ?_
    repeat' (first | (show oL; first | (show oA (.store _ _ _); first | refine m_storeb 14 tabs rfl rfl rfl rfl rfl rfl rfl ?_ | refine m_storeb 13 tabs rfl rfl rfl rfl rfl rfl rfl ?_)) | refine xNt ?_ | (show oC; refine c_ret ?_) | (show AT _ _ _ _; refine x_then_ret ?_))
    exact x_ret2 Tryz.results170 (res_cellb 14 tabs rfl rfl rfl rfl) (res_cellb 13 tabs rfl rfl rfl rfl) (fun wz cz => ⟨_, _, rfl, ⟨i, ch, _, hi, rfl, r, r', _, _, [.own (matsT 47 r.m) (.slice a3 r.m.length c3), .own (iT r.d) (.slice a2 r.d.length c2), .own (iT r.q.2.2) (.slice a1 r.q.2.2.length c1), .own (iT r.q.2.1) (.slice a0 r.q.2.1.length c0)], [.own (matsT 47 r'.m) (.slice a3' r'.m.length c3'), .own (iT r'.d) (.slice a2' r'.d.length c2'), .own (iT r'.q.2.2) (.slice a1' r'.q.2.2.length c1'), .own (iT r'.q.2.1) (.slice a0' r'.q.2.1.length c0')], rfl, ⟨⟨q, p, hr⟩, hr'⟩, ⟨a0, c0, a1, c1, a2, c2, a3, c3, rfl, s0, s1, s2, s3, rfl⟩, ⟨a0', c0', a1', c1', a2', c2', a3', c3', rfl, s0', s1', s2', s3', rfl⟩, rfl⟩, cz.sub (.cons_cons _ (.cons_cons _ (.cons_cons _ (.cons_cons _ (.cons_cons _ (.cons _ (.cons_cons _ (.cons_cons _ (.cons_cons _ (.cons_cons _ (List.nil_sublist _)))))))))))⟩)
def SmC (ms : List Mat) : Prop := ∀ m ∈ ms, m.2.2.length ≤ 1000
theorem smC_snoc {ms : List Mat} {R C : Int} {xs : List Int} (h : SmC ms) (hx : xs.length ≤ 1000) : SmC (ms ++ [(R, C, xs)]) := fun m hm => by
  rcases List.mem_append.1 hm with h1 | h1
  · exact h m h1
  · simp at h1; subst h1; exact hx
theorem smC_set {ms : List Mat} {i : Nat} {x : Mat} (h : SmC ms) (hx : x.2.2.length ≤ 1000) : SmC (ms.set i x) := fun m hm => by
  rcases List.mem_or_eq_of_mem_set hm with h1 | h1
  · exact h m h1
  · subst h1; exact hx
def GivesML (n : Nat) (v : Value) (H : List HE) : Prop := ∃ (ms : List Mat) (a : Option Addr) (c : Nat), v = .slice a ms.length c ∧ ms.length = n ∧ SA a ms.length ∧ SmC ms ∧ H = [.own (matsT 47 ms) (.slice a ms.length c)]
theorem ml_next {ms : List Mat} {n : Nat} {xs : List Int} : ms.flatMap matT ++ (List.map T.c [iV n, iV n] ++ [iT xs]) = (ms ++ [((n : Int), (n : Int), xs)]).flatMap matT := by
  rw [List.flatMap_append]; rfl
theorem l9Changes_ok {w1 : World} {M1 : List Nat} {H1 : List HE} {w : World} {M' : List Nat} {u : Value} {b i : Nat} {h : Int} {r : Rp} {u0 u1 u2 u3 : Value} (hl : Lent M1 w1 (cu u b i h) H1 M' w) (hc : CodeF w1 M1 u) (hi : i ≤ vlen u) (hd : r.d.length ≤ 7) (h2 : RdOut w M' (iT r.d) u2) :
    DoesB Tryz.prog 149 [cuV b, .agg #[iV r.p, iV r.q.1, u0, u1, u2, u3]] w M' (Gcu u b (GivesML r.d.length)) := by
  have hc2 := lent_code hl hc
  obtain ⟨a2, c2, rfl, hs2, hg2⟩ := h2.intsO
  refine fnb_lent Tryz.func149 rfl Tryz.ntmps149 rfl hl ?_
  repeat' (first | (show oL; first | refine sAs rfl rfl ?_ | (show oA (.box _ _); refine m_box rfl rfl (fun b3 hb3 => ?_)) | (show oA (.buildSlice _ _ _); refine m_build0 tabs rfl rfl (fun g hg => ?_))) | refine xNt ?_ | (show oC; first | refine c_seq ?_ | refine c_region ?_ | refine c_block ?_))
  refine c_loopH (α := (List Mat × Option Addr × Nat) × Nat × Int) [0, 3] (fun s => [(5, .slice s.1.2.1 s.1.1.length s.1.2.2), (6, iV s.1.1.length)]) (fun s => (s.1.1.length ≤ r.d.length ∧ SmC s.1.1) ∧ s.2.1 ≤ vlen u) (fun s => [.own (matsT 47 s.1.1) (.slice s.1.2.1 s.1.1.length s.1.2.2), cu u b s.2.1 s.2.2, .blk b3 #[iV r.p, iV r.q.1, u0, u1, .slice a2 r.d.length c2, u3] 60]) (fun s => r.d.length - s.1.1.length) (([], some ⟨g, 0, none⟩, 0), i, h) rfl sB ?_ ?_ ?_
  · exact ⟨⟨Nat.zero_le _, by intro m hm; simp at hm⟩, hi⟩
  · exact fun w' c' => (c'.front (i := 2) rfl).swap
  · rintro ⟨⟨ms, a, c⟩, i, ch⟩ ⟨⟨hml, hmc⟩, hi⟩
    simp only at hml hmc hi ⊢
    by_cases hin : ms.length < r.d.length
    · obtain ⟨N, hN⟩ : ∃ N : Nat, max 0 (min 4 (r.d.getD ms.length 0)) = N := ⟨(max 0 (min 4 (r.d.getD ms.length 0))).toNat, by omega⟩
      have hgi := hg2 ms.length hin
      repeat' (first | (show oL; first | refine sMv rfl rfl ?_ | refine sAs rfl rfl ?_ | refine sFd tabs rfl rfl rfl rfl ?_ | (show oA (.load _ _); first | refine sLd 2 tabs rfl rfl rfl rfl rfl ?_ | refine st_y (y_load tabs rfl rfl (fun w' c' => hgi w' c'.agree)) rfl ?_ | refine sLd 4 tabs rfl rfl rfl rfl rfl ?_ | refine sLb 0 tabs rfl rfl rfl rfl rfl ?_ | refine sLb 1 tabs rfl rfl rfl rfl rfl ?_) | (show oA (.indexAddr _ _ _); refine st_y (y_ix1 tabs (j := ms.length) rfl rfl rfl hs2 rfl hin) rfl ?_) | refine sLs rfl rfl rfl ?_ | (show oA (.unOp _ _ _); refine st_y (y_notd rfl) rfl ?_) | (show oA (.call _); first | refine st_y (y_min rfl rfl) rfl ?_ | refine st_y (y_maxn rfl rfl hN) rfl ?_ | (refine m_callL 1 (ent_of Tryz.func239 kr rfl) rfl rfl rfl (fun w M' hl => l3Random_ok r.p (R := N) (C := N) hl hc2 hi om om) ?_; rintro v H' ⟨i, ch, _, hi, rfl, xs, ax, cx, rfl, hx, rfl⟩) | (refine m_call (ent_of Tryz.func244 kr rfl) rfl rfl (fun w c => spec_IsInvertible_ok (m := ((N : Int), (N : Int), xs)) (c.own_rd (i := 2) rfl)) ?_; rintro v H' ⟨rfl, rfl⟩) | (refine m_call (ent_of Tryz.func169 kr rfl) rfl rfl (fun w c => l3Identity_ok (n := N) om) ?_; rintro v H' ⟨az, cz, rfl, hsz, rfl⟩) | refine sLn tabs rfl rfl rfl ?_) | (show oA (.store _ _ _); first | refine m_storeb 0 tabs rfl rfl rfl rfl rfl rfl rfl ?_ | refine m_storeb 1 tabs rfl rfl rfl rfl rfl rfl rfl ?_) | (show oA (.alloc _); refine m_alloc tabs rfl rfl (fun b8 hb8 => ?_))) | refine xNt ?_ | (show oC; first | refine c_seq ?_ | refine c_region ?_ | refine c_skip (x_then ?_) | refine c_block ?_ | refine c_ift rfl aO ?_ | refine c_ifnd rfl (fun h => ?_) (fun h => ?_)))
      · skip
        repeat' (first | (show oL; first | refine sMv rfl rfl ?_ | refine sAs rfl rfl ?_ | refine sAd rfl rfl om rfl ?_ | (show oA (.call _); refine m_push1 [iV N, iV N] 3 0 tabs (m' := ms.length) rfl rfl rfl rfl rfl rfl rfl (by rw [flatMap_length matT_length]) (by rw [flatMap_length matT_length]; omega) (by decide) rfl rfl (fun a9 c9 => ?_)) | (show oA (.buildSlice _ _ _); refine m_build1 tabs (us := [iV N, iV N, .slice az (N * N) cz]) rfl rfl rfl rfl (by decide) rfl (fun g2 hg2 => ?_))) | (show oN; first | refine c_nil (x_then ?_) | refine c_nil ?_) | (show oC; refine c_region ?_) | (show AT _ _ _ _; first | refine x_then ?_ | refine x_blk ?_))
        refine x_nx ((ms ++ [((N : Int), (N : Int), mk N N idF)], a9, c9), i, ch) (by simp only [List.length_append, List.length_singleton]; repeat' (first | exact Sub.nil | refine Sub.cons rfl ?_ | refine Sub.consi rfl om ?_)) ⟨⟨by simp only [List.length_append, List.length_singleton]; omega, smC_snoc hmc (by rw [mk_length]; have := Nat.mul_le_mul (show N ≤ 4 by omega) (show N ≤ 4 by omega); omega)⟩, hi⟩ (fun w' c' => ?_) (by simp only [List.length_append, List.length_singleton]; omega)
        rw [ml_next] at c'
        simp only [List.length_append, List.length_singleton]
        exact (c'.front (i := 2) rfl).swap.sub sL
      · skip
        repeat' (first | (show oL; first | refine sMv rfl rfl ?_ | refine sAs rfl rfl ?_ | refine sAd rfl rfl om rfl ?_ | (show oA (.call _); refine m_push1 [iV N, iV N] 2 2 tabs (m' := ms.length) rfl rfl rfl rfl rfl rfl rfl (by rw [flatMap_length matT_length]) (by rw [flatMap_length matT_length]; omega) (by decide) rfl rfl (fun a9 c9 => ?_)) | (show oA (.buildSlice _ _ _); refine m_build1 tabs (us := [iV N, iV N, .slice ax xs.length cx]) rfl rfl rfl rfl (by decide) rfl (fun g2 hg2 => ?_))) | (show oN; first | refine c_nil (x_then ?_) | refine c_nil ?_) | (show oC; refine c_region ?_) | (show AT _ _ _ _; first | refine x_then ?_ | refine x_blk ?_))
        refine x_nx ((ms ++ [((N : Int), (N : Int), xs)], a9, c9), i, ch) (by simp only [List.length_append, List.length_singleton]; repeat' (first | exact Sub.nil | refine Sub.cons rfl ?_ | refine Sub.consi rfl om ?_)) ⟨⟨by simp only [List.length_append, List.length_singleton]; omega, smC_snoc hmc (by rw [hx]; have := Nat.mul_le_mul (show N ≤ 4 by omega) (show N ≤ 4 by omega); omega)⟩, hi⟩ (fun w' c' => ?_) (by simp only [List.length_append, List.length_singleton]; omega)
        rw [ml_next] at c'
        simp only [List.length_append, List.length_singleton]
        exact (c'.front (i := 2) rfl).swap.sub sL
    · have hfull : ms.length = r.d.length := by omega
      refine AT.fact (mats_sl 0 rfl) (fun hsm => ?_)
      repeat' (first | (show oL; first | refine sMv rfl rfl ?_ | refine sAs rfl rfl ?_ | refine sFd tabs rfl rfl rfl rfl ?_ | refine sLd 2 tabs rfl rfl rfl rfl rfl ?_ | (show oA (.binOp _ _ _ _ _); first | refine sLs rfl rfl rfl ?_ | refine st_y (y_gtr rfl rfl) rfl ?_) | (show oA (.call _); first | (refine m_callL 1 (ent_of Tryz.func127 kr rfl) rfl rfl rfl (fun w M' hl => l1Once_ok 12 hl hc2 hi) ?_; rintro v H' ⟨i, ch, _, hi, rfl, (_ | _), rfl, rfl⟩) | refine sLn tabs rfl rfl rfl ?_) | (show oA (.pick _ _ _); first | refine st_y (y_pickt rfl aO rfl) rfl ?_ | refine st_y (y_pickf rfl aO rfl) rfl ?_) | refine st_gdy rfl rfl aO ?_ | refine st_gdn rfl rfl aO rfl ?_ | refine st_gd rfl rfl (fun h => ?_) (fun h => ?_)) | refine xNt ?_ | (show oC; first | refine c_seq ?_ | refine c_region ?_ | refine c_skip (x_then ?_) | refine c_ret ?_ | refine c_exit ?_ | refine c_true rfl ?_ | refine c_false rfl ?_ | refine c_iff rfl nN ?_) | (show AT _ _ _ _; first | refine x_then ?_ | refine x_then_exit ?_ | refine x_blk_exit rfl ?_))
      · exact x_ret1 Tryz.results149 (res_tmp rfl) (fun wz cz => ⟨_, _, rfl, ⟨i, ch, _, hi, rfl, ms, a, c, rfl, hfull, hsm, hmc, rfl⟩, cz.sub (.cons_cons _ (.cons_cons _ (List.nil_sublist _)))⟩)
      · skip
        repeat' (first | (show oL; first | refine sMv rfl rfl ?_ | refine sAs rfl rfl ?_ | (show oA (.indexAddr _ _ _); refine st_y (y_ixa tabs rfl rfl rfl hsm om om) rfl ?_) | (show oA (.call _); (refine m_callL 0 (ent_of Tryz.func131 kr rfl) rfl rfl rfl (fun w M' hl => l3Any_ok r.p hl hc2 hi) ?_; rintro v H' ⟨i, ch, _, hi, rfl, m, a5, c5, rfl, hm, rfl⟩)) | (show oA (.store _ _ _); refine m_storeT tabs (m := ms.length) (tn := matT m) (j := 0) rfl rfl rfl rfl rfl rfl (by decide) (by rw [flatMap_length matT_length]) om (fun w c => ((c.front (i := 1) rfl).mat (u0 := iV m.1) (u1 := iV m.2.1)).front (i := 2) rfl) ?_)) | refine xNt ?_ | (show oC; first | refine c_seq ?_ | refine c_region ?_ | refine c_ret ?_))
        exact x_ret1 Tryz.results149 (res_tmp rfl) (fun wz cz => ⟨_, _, rfl, ⟨i, ch, _, hi, rfl, ms.set 0 m, a, c, by rw [List.length_set], by rw [List.length_set]; exact hfull, by rw [List.length_set]; exact hsm, smC_set hmc om, by rw [List.length_set]⟩, by
          rw [flatMap_set matT_length _ _ _ om] at cz
          exact cz.swap.sub (.cons_cons _ (.cons_cons _ (List.nil_sublist _)))⟩)
      · exact x_ret1 Tryz.results149 (res_tmp rfl) (fun wz cz => ⟨_, _, rfl, ⟨i, ch, _, hi, rfl, ms, a, c, rfl, hfull, hsm, hmc, rfl⟩, cz.swap.sub (.cons_cons _ (.cons_cons _ (List.nil_sublist _)))⟩)
end Go.Proofs.YtijjkfbkihgfgaaGreat

namespace Go.Proofs.YtijjkfbkihgfgaaGreat
open Go.Lg Go.Proofs Go.RowKit
attribute [local irreducible] Code.wp wpList bodyPost Exit.then Exit.inBlock Hp Again Calls Y AT ResV QT Qn QI wpAny wpAnyQ
set_option maxRecDepth 20000
set_option maxHeartbeats 4000000

structure RdR (w : World) (r : Rp) (x0 : Option Addr) (x0' : Nat) (x1 : Option Addr) (x1' : Nat) (x2 : Option Addr) (x2' : Nat) (x3 : Option Addr) (x3' : Nat) : Prop where
  r0 : Rd w (iT r.q.2.1) (.slice x0 r.q.2.1.length x0')
  r1 : Rd w (iT r.q.2.2) (.slice x1 r.q.2.2.length x1')
  r2 : Rd w (iT r.d) (.slice x2 r.d.length x2')
  r3 : Rd w (matsT 47 r.m) (.slice x3 r.m.length x3')
theorem hp_rr {w0 w : World} {H : List HE} (c : Hp [] w0 H w) {r : Rp} {x0 x1 x2 x3 : Option Addr} {x0' x1' x2' x3' : Nat} (h : RdR w0 r x0 x0' x1 x1' x2 x2' x3 x3') : RdR w r x0 x0' x1 x1' x2 x2' x3 x3' := ⟨c.rd h.r0, c.rd h.r1, c.rd h.r2, c.rd h.r3⟩
theorem rr_own (i : Nat) {w0 w : World} {H : List HE} (c : Hp [] w0 H w) {r : Rp} {x0 x1 x2 x3 : Option Addr} {x0' x1' x2' x3' : Nat} (h3 : H[i]? = some (.own (matsT 47 r.m) (.slice x3 r.m.length x3'))) (h2 : H[i + 1]? = some (.own (iT r.d) (.slice x2 r.d.length x2'))) (h1 : H[i + 2]? = some (.own (iT r.q.2.2) (.slice x1 r.q.2.2.length x1'))) (h0 : H[i + 3]? = some (.own (iT r.q.2.1) (.slice x0 r.q.2.1.length x0'))) : RdR w r x0 x0' x1 x1' x2 x2' x3 x3' := ⟨c.own_rd h0, c.own_rd h1, c.own_rd h2, c.own_rd h3⟩
end Go.Proofs.YtijjkfbkihgfgaaGreat

namespace Go.Lg
open Go.RowKit
section
variable {P : Program} {n : Nat} {s : List (Nat × Value)} {Q : Exit → Act → World → Prop} {ops : Array Oper} {rest : List Oper} {d ty t : Nat} {pos : String} {af : Array Edge} {x y z : Operand} {M : List Nat} {w0 : World} {H : List HE}
theorem fill3 {u v r : Value} {a0 a1 a2 a3 a4 a5 b0 b1 b2 b3 b4 b5 c0 c1 c2 c3 c4 c5 : Value} (hu : u.cells = #[a0, a1, a2, a3, a4, a5]) (hv : v.cells = #[b0, b1, b2, b3, b4, b5]) (hr : r.cells = #[c0, c1, c2, c3, c4, c5]) (f : Nat → Value) :
    Instr.fill (fun i => some (i * 6, 6)) ((Array.range 18).map f) [(0, u), (1, v), (2, r)] = some #[a0, a1, a2, a3, a4, a5, b0, b1, b2, b3, b4, b5, c0, c1, c2, c3, c4, c5] := by
  have e : (Array.range 18).map f = #[f 0, f 1, f 2, f 3, f 4, f 5, f 6, f 7, f 8, f 9, f 10, f 11, f 12, f 13, f 14, f 15, f 16, f 17] := Array.ext' (by rw [Array.toList_map, Array.toList_range]; rfl)
  rw [e]
  simp [Instr.fill, hu, hv, hr]
theorem m_build36 (T : Tabs P) {e b : Nat} {zz : List Value} {u v r : Value} {a0 a1 a2 a3 a4 a5 b0 b1 b2 b3 b4 b5 c0 c1 c2 c3 c4 c5 : Value} (ht : lk T.sl t = some (e, 6, b, zz)) (hx : ev s x = some u) (hy : ev s y = some v) (hz : ev s z = some r) (hu : u.cells = #[a0, a1, a2, a3, a4, a5]) (hv : v.cells = #[b0, b1, b2, b3, b4, b5]) (hr : r.cells = #[c0, c1, c2, c3, c4, c5]) (hd : Nat.blt d n = true)
    (h : ∀ g, w0.heap.size ≤ g → AT n (Hp M w0 (.blk g #[a0, a1, a2, a3, a4, a5, b0, b1, b2, b3, b4, b5, c0, c1, c2, c3, c4, c5] e :: H)) ((d, .slice (some ⟨g, 0, none⟩) 3 3) :: s) (wpList P ops Q rest)) :
    AT n (Hp M w0 H) s (wpList P ops Q (⟨some d, .buildSlice t 3 #[(0, x), (1, y), (2, z)], ty, pos, af, none⟩ :: rest)) := fun a w f c => by
  refine wpList_one rfl ?_
  unfold Oper.wp
  obtain ⟨q1, q2, q3, i, zv, q4, q5, q6, q7, q8⟩ := T.sl_ok _ _ _ _ _ ht
  have hfill := fill3 hu hv hr (fun q => zv.cells[q % zv.cells.size]!)
  have : (execOp a.eval ⟨some d, .buildSlice t 3 #[(0, x), (1, y), (2, z)], ty, pos, af, none⟩).run P w = .ok (.value (.slice (some ⟨w.heap.size, 0, none⟩) 3 3)) (w.alloc (.cells #[a0, a1, a2, a3, a4, a5, b0, b1, b2, b3, b4, b5, c0, c1, c2, c3, c4, c5] e)) := by
    simp [execOp, f.ev hx, f.ev hy, f.ev hz, Instr.buildSlice, run_underlying q1, sizeOf, typeInfo, q4, q5, zeroValue, q7, newRow]
    simp [hfill]
  rw [this]
  exact h _ c.kept.size _ _ (f.put (by simpa [Nat.blt_eq] using hd) _) (c.alloc _ _)
end
end Go.Lg
namespace Go.Proofs.YtijjkfbkihgfgaaGreat
open Go.Lg Go.Proofs Go.RowKit
attribute [local irreducible] Code.wp wpList bodyPost Exit.then Exit.inBlock Hp Again Calls Y AT ResV QT Qn QI wpAny wpAnyQ
set_option maxRecDepth 20000
set_option maxHeartbeats 4000000

theorem rdL_rp {M : List Nat} {w0 w : World} {H : List HE} (c : Hp M w0 H w) {i g e j : Nat} {cur : Array Value} {r : Rp} {ts : List T} {v0 v1 v2 v3 : Value} (hi : H[i]? = some (.blk g cur e)) (h0 : cur[j]? = some (iV r.p)) (h1 : cur[j + 1]? = some (iV r.q.1)) (h2 : cur[j + 2]? = some v0) (h3 : cur[j + 3]? = some v1) (h4 : cur[j + 4]? = some v2) (h5 : cur[j + 5]? = some v3)
    (r0 : Rd w (iT r.q.2.1) v0) (r1 : Rd w (iT r.q.2.2) v1) (r2 : Rd w (iT r.d) v2) (r3 : Rd w (matsT 47 r.m) v3) (rest : RdL w (some ⟨g, 0, none⟩) (j + 6) ts) : RdL w (some ⟨g, 0, none⟩) j (rpT r ++ ts) := by
  have k : ∀ (q : Nat) (u : Value), cur[q]? = some u → w.cell? ⟨g, 0 + q, none⟩ = some u := fun q u h => by
    rw [Nat.zero_add]; exact hc_blk i hi h w c
  simp only [rpT, List.cons_append, List.nil_append, RdL]
  exact ⟨⟨g, 0, _, rfl, k _ _ h0, by simp only [Rd]⟩, ⟨g, 0, _, rfl, k _ _ h1, by simp only [Rd]⟩, ⟨g, 0, _, rfl, k _ _ h2, r0⟩, ⟨g, 0, _, rfl, k _ _ h3, r1⟩, ⟨g, 0, _, rfl, k _ _ h4, r2⟩, ⟨g, 0, _, rfl, k _ _ h5, r3⟩, rest⟩
theorem l8Small_ok {w1 : World} {M1 : List Nat} {H1 : List HE} {w : World} {M' : List Nat} {u : Value} {b i : Nat} {h : Int} (hl : Lent M1 w1 (cu u b i h) H1 M' w) (hc : CodeF w1 M1 u) (hi : i ≤ vlen u) :
    DoesB Tryz.prog 258 [cuV b] w M' (Gcu u b (GivesRp BndR)) := by
  have hc2 := lent_code hl hc
  have tok0 : True := trivial
  refine fnb_lent Tryz.func258 rfl Tryz.ntmps258 rfl hl ?_
  repeat' (first | (show oL; first | refine sMv rfl rfl ?_ | refine sAs rfl rfl ?_ | refine sLb 0 tabs rfl rfl rfl rfl rfl ?_ | (show oA (.call _); first | (refine m_callL 1 (ent_of Tryz.func187 kr rfl) rfl rfl rfl (fun w M' hl => l8Prime_ok hl hc2 hi) ?_; rintro v H' ⟨i, ch, _, hi, rfl, p, rfl, hp, rfl⟩) | (refine m_callL 0 (ent_of Tryz.func188 kr rfl) rfl rfl rfl (fun w M' hl => l6Acyclic_ok hl hc2 hi) ?_; rintro v H' ⟨i, ch, _, hi, rfl, q, a, c, a', c', rfl, hq, rfl⟩) | (refine m_callL 1 (ent_of Tryz.func189 kr rfl) rfl rfl rfl (fun w M' hl => l8Of_ok (q := q) p 2 (by decide) hl hc2 hi (hl.own 2 rfl) (hl.own 1 rfl)) ?_; rintro v H' ⟨i, ch, H0, hi, rfl, hO⟩; obtain ⟨r, hr, x0, x0', x1, x1', x2, x2', x3, x3', rfl, sx0, sx1, sx2, sx3, rfl⟩ := hO.rep hq)) | (show oA (.store _ _ _); first | refine m_storeb 0 tabs rfl rfl rfl rfl rfl rfl rfl ?_ | refine m_storeb 8 tabs rfl rfl rfl rfl rfl rfl rfl ?_) | (show oA (.alloc _); first | (have _t := tok0; refine m_alloc tabs rfl rfl (fun b2 hb2 => ?_); clear _t tok0) | refine m_alloc tabs rfl rfl (fun bq hbq => ?_))) | refine xNt ?_ | (show oC; first | refine c_seq ?_ | refine c_region ?_ | refine c_ret ?_))
  exact x_ret1 Tryz.results258 (res_cellb 8 tabs rfl rfl rfl rfl) (fun wz cz => ⟨_, _, rfl, ⟨i, ch, [.own (matsT 47 r.m) (.slice x3 r.m.length x3'), .own (iT r.d) (.slice x2 r.d.length x2'), .own (iT r.q.2.2) (.slice x1 r.q.2.2.length x1'), .own (iT r.q.2.1) (.slice x0 r.q.2.1.length x0')], hi, rfl, r, hr.bnd, x0, x0', x1, x1', x2, x2', x3, x3', rfl, sx0, sx1, sx2, sx3, rfl⟩, cz.sel [0, 1, 2, 3, 4] rfl⟩)
def GivesRm (v : Value) (H : List HE) : Prop := ∃ (r : Rp) (ms : List Mat) (vr : Value) (am : Option Addr) (cm : Nat) (Hr : List HE), v = .tuple #[vr, .slice am ms.length cm] ∧ GivesR r vr Hr ∧ SA am ms.length ∧ H = .own (matsT 47 ms) (.slice am ms.length cm) :: Hr
theorem l9Changed_ok {w : World} {u : Value} (hc : CodeF w [] u) : Does Tryz.prog 181 [u] w GivesRm := by
  have tok0 : True := trivial
  refine fn_enter Tryz.func181 rfl Tryz.ntmps181 rfl ?_
  repeat' (first | (show oL; first | refine sMv rfl rfl ?_ | refine sAs rfl rfl ?_ | (show oA (.call _); first | (refine m_call (ent_of Tryz.func118 kr rfl) rfl rfl (fun w c => l1New_ok (hp_code c hc)) ?_; rintro v H' ⟨b, ch, rfl, rfl⟩) | (refine m_callL 0 (ent_of Tryz.func258 kr rfl) rfl rfl rfl (fun w M' hl => l8Small_ok hl hc (Nat.zero_le _)) ?_; rintro v H' ⟨i, ch, _, hi, rfl, r, hr, x0, x0', x1, x1', x2, x2', x3, x3', rfl, sx0, sx1, sx2, sx3, rfl⟩)) | (show oA (.store _ _ _); refine m_storeb 0 tabs rfl rfl rfl rfl rfl rfl rfl ?_) | (show oA (.alloc _); first | (have _t := tok0; refine m_alloc tabs rfl rfl (fun b2 hb2 => ?_); clear _t tok0) | refine m_alloc tabs rfl rfl (fun b5 hb5 => ?_))) | refine xNt ?_ | (show oC; first | refine c_seq ?_ | refine c_region ?_))
  refine c_all (Hp [] w [.blk b5 #[iV r.p, iV r.q.1, .slice x0 r.q.2.1.length x0', .slice x1 r.q.2.2.length x1', .slice x2 r.d.length x2', .slice x3 r.m.length x3'] 60]) kr (fun _ c => Hp.drew c) ?_
  refine h_take 0 rfl kr kr kr (by first | exact y_loadb 0 tabs rfl rfl rfl rfl | exact y_loadb 0 tabs rfl rfl rfl rfl) rfl sS ?_
  refine h_take 1 rfl kr kr kr (by exact y_move rfl) rfl sS ?_
  refine h_take 2 rfl kr kr kr (by first | exact y_loadb 0 tabs rfl rfl rfl rfl | exact y_loadb 0 tabs rfl rfl rfl rfl) rfl sS ?_
  refine h_only 3 rfl kr ?_
  first | (refine m_callL 1 (ent_of Tryz.func149 kr rfl) rfl rfl rfl (fun w M' hl => l9Changes_ok (r := r) hl hc hi hr.d (hl.own 2 rfl)) ?_; rintro v H' ⟨i, ch, _, hi, rfl, ms, am, cm, rfl, hml, hsm, hmc, rfl⟩) | (refine m_storeb 7 tabs rfl rfl rfl rfl rfl rfl rfl ?_)
  refine c_nil (x_one (h_keep sS ?_))
  refine h_only 4 rfl kr ?_
  first | (refine m_callL 1 (ent_of Tryz.func149 kr rfl) rfl rfl rfl (fun w M' hl => l9Changes_ok (r := r) hl hc hi hr.d (hl.own 2 rfl)) ?_; rintro v H' ⟨i, ch, _, hi, rfl, ms, am, cm, rfl, hml, hsm, hmc, rfl⟩) | (refine m_storeb 7 tabs rfl rfl rfl rfl rfl rfl rfl ?_)
  refine c_nil (x_one (h_keep sS ?_))
  refine h_take 5 rfl kr kr kr (by exact y_assign rfl) rfl sS ?_
  refine h_end kr ?_
  repeat' (first | (show oC; refine c_ret ?_) | (show AT _ _ _ _; refine x_then ?_))
  exact x_ret2 Tryz.results181 (res_cellb 7 tabs rfl rfl rfl rfl) (res_tmp rfl) (fun wz cz => ⟨_, _, rfl, ⟨r, ms, _, am, cm, [.own (matsT 47 r.m) (.slice x3 r.m.length x3'), .own (iT r.d) (.slice x2 r.d.length x2'), .own (iT r.q.2.2) (.slice x1 r.q.2.2.length x1'), .own (iT r.q.2.1) (.slice x0 r.q.2.1.length x0')], rfl, ⟨x0, x0', x1, x1', x2, x2', x3, x3', rfl, sx0, sx1, sx2, sx3, rfl⟩, hsm, rfl⟩, cz.sel [1, 3, 4, 5, 6] rfl⟩)
theorem DrawChangeBasis_ok {w : World} {u : Value} (hc : CodeF w [] u) : Does Tryz.prog 69 [u] w GivesRm := by
  have tok0 : True := trivial
  refine fn_enter Tryz.func69 rfl Tryz.ntmps69 rfl ?_
  repeat' (first | (show oL; first | refine sMv rfl rfl ?_ | refine sAs rfl rfl ?_ | refine sLb 0 tabs rfl rfl rfl rfl rfl ?_ | (show oA (.call _); (refine m_call (ent_of Tryz.func181 kr rfl) rfl rfl (fun w c => l9Changed_ok (hp_code c hc)) ?_; rintro v H' ⟨r, ms, _, am, cm, _, rfl, ⟨x0, x0', x1, x1', x2, x2', x3, x3', rfl, sx0, sx1, sx2, sx3, rfl⟩, hsm, rfl⟩)) | (show oA (.extract _ _); refine st_y (y_ext rfl rfl) rfl ?_) | (show oA (.store _ _ _); first | refine m_storeb 0 tabs rfl rfl rfl rfl rfl rfl rfl ?_ | refine m_storeb 6 tabs rfl rfl rfl rfl rfl rfl rfl ?_) | (show oA (.alloc _); first | (have _t := tok0; refine m_alloc tabs rfl rfl (fun b2 hb2 => ?_); clear _t tok0) | refine m_alloc tabs rfl rfl (fun b5 hb5 => ?_))) | refine xNt ?_ | (show oC; first | refine c_seq ?_ | refine c_region ?_ | refine c_ret ?_))
  exact x_ret2 Tryz.results69 (res_cellb 6 tabs rfl rfl rfl rfl) (res_tmp rfl) (fun wz cz => ⟨_, _, rfl, ⟨r, ms, _, am, cm, [.own (matsT 47 r.m) (.slice x3 r.m.length x3'), .own (iT r.d) (.slice x2 r.d.length x2'), .own (iT r.q.2.2) (.slice x1 r.q.2.2.length x1'), .own (iT r.q.2.1) (.slice x0 r.q.2.1.length x0')], rfl, ⟨x0, x0', x1, x1', x2, x2', x3, x3', rfl, sx0, sx1, sx2, sx3, rfl⟩, hsm, rfl⟩, cz.sel [1, 2, 3, 4, 5] rfl⟩)
theorem DrawDirectSum_ok {w : World} {u : Value} (hc : CodeF w [] u) : Does Tryz.prog 64 [u] w (GivesPr PairR) := by
  have tok0 : True := trivial
  have tok1 : True := trivial
  have tok2 : True := trivial
  refine fn_enter Tryz.func64 rfl Tryz.ntmps64 rfl ?_
  repeat' (first | (show oL; first | refine sMv rfl rfl ?_ | (show oA (.call _); first | (refine m_call (ent_of Tryz.func118 kr rfl) rfl rfl (fun w c => l1New_ok (hp_code c hc)) ?_; rintro v H' ⟨b, ch, rfl, rfl⟩) | (refine m_callL 0 (ent_of Tryz.func170 kr rfl) rfl rfl rfl (fun w M' hl => l9Pair_ok hl hc (Nat.zero_le _)) ?_; rintro v H' ⟨i, ch, _, hi, rfl, ra, rb, _, _, _, _, rfl, hP, ⟨x0, x0', x1, x1', x2, x2', x3, x3', rfl, sx0, sx1, sx2, sx3, rfl⟩, ⟨y0, y0', y1, y1', y2, y2', y3, y3', rfl, sy0, sy1, sy2, sy3, rfl⟩, rfl⟩)) | (show oA (.extract _ _); refine st_y (y_ext rfl rfl) rfl ?_) | (show oA (.store _ _ _); first | refine m_storeb 0 tabs rfl rfl rfl rfl rfl rfl rfl ?_ | refine m_storeb 1 tabs rfl rfl rfl rfl rfl rfl rfl ?_) | (show oA (.alloc _); first | (have _t := tok0; refine m_alloc tabs rfl rfl (fun b2 hb2 => ?_); clear _t tok0) | (have _t := tok1; refine m_alloc tabs rfl rfl (fun b3 hb3 => ?_); clear _t tok1) | (have _t := tok2; refine m_alloc tabs rfl rfl (fun b5 hb5 => ?_); clear _t tok2) | refine m_alloc tabs rfl rfl (fun b6 hb6 => ?_))) | refine xNt ?_ | (show oC; first | refine c_seq ?_ | refine c_region ?_))
  refine c_all (Hp [] w [.blk b6 #[iV rb.p, iV rb.q.1, .slice y0 rb.q.2.1.length y0', .slice y1 rb.q.2.2.length y1', .slice y2 rb.d.length y2', .slice y3 rb.m.length y3'] 60, .blk b5 #[iV ra.p, iV ra.q.1, .slice x0 ra.q.2.1.length x0', .slice x1 ra.q.2.2.length x1', .slice x2 ra.d.length x2', .slice x3 ra.m.length x3'] 60]) kr (fun _ c => Hp.drew c) ?_
  refine h_take 0 rfl kr kr kr (by first | exact y_loadb 1 tabs rfl rfl rfl rfl | exact y_loadb 1 tabs rfl rfl rfl rfl) rfl sS ?_
  refine h_take 1 rfl kr kr kr (by first | exact y_loadb 0 tabs rfl rfl rfl rfl | exact y_loadb 0 tabs rfl rfl rfl rfl) rfl sS ?_
  refine h_only 2 rfl kr ?_
  first | (refine m_storeb 12 tabs rfl rfl rfl rfl rfl rfl rfl ?_) | (refine m_storeb 11 tabs rfl rfl rfl rfl rfl rfl rfl ?_)
  refine c_nil (x_one (h_keep sS ?_))
  refine h_only 3 rfl kr ?_
  first | (refine m_storeb 12 tabs rfl rfl rfl rfl rfl rfl rfl ?_) | (refine m_storeb 11 tabs rfl rfl rfl rfl rfl rfl rfl ?_)
  refine c_nil (x_one (h_keep sS ?_))
  refine h_end kr ?_
  repeat' (first | (show oC; refine c_ret ?_) | (show AT _ _ _ _; refine x_then ?_))
  exact x_ret2 Tryz.results64 (res_cellb 12 tabs rfl rfl rfl rfl) (res_cellb 11 tabs rfl rfl rfl rfl) (fun wz cz => ⟨_, _, rfl, ⟨ra, rb, _, _, [.own (matsT 47 ra.m) (.slice x3 ra.m.length x3'), .own (iT ra.d) (.slice x2 ra.d.length x2'), .own (iT ra.q.2.2) (.slice x1 ra.q.2.2.length x1'), .own (iT ra.q.2.1) (.slice x0 ra.q.2.1.length x0')], [.own (matsT 47 rb.m) (.slice y3 rb.m.length y3'), .own (iT rb.d) (.slice y2 rb.d.length y2'), .own (iT rb.q.2.2) (.slice y1 rb.q.2.2.length y1'), .own (iT rb.q.2.1) (.slice y0 rb.q.2.1.length y0')], rfl, hP, ⟨x0, x0', x1, x1', x2, x2', x3, x3', rfl, sx0, sx1, sx2, sx3, rfl⟩, ⟨y0, y0', y1, y1', y2, y2', y3, y3', rfl, sy0, sy1, sy2, sy3, rfl⟩, rfl⟩, cz.sel [3, 4, 5, 6, 7, 8, 9, 10] rfl⟩)
def GivesRk (v : Value) (H : List HE) : Prop := ∃ (n : Int) (r : Rp) (vr : Value), v = .tuple #[vr, iV n] ∧ GivesR r vr H
theorem DrawPowerOfRep_ok {w : World} {u : Value} (hc : CodeF w [] u) : Does Tryz.prog 76 [u] w GivesRk := by
  have tok0 : True := trivial
  have tok1 : True := trivial
  refine fn_enter Tryz.func76 rfl Tryz.ntmps76 rfl ?_
  repeat' (first | (show oL; first | refine sMv rfl rfl ?_ | refine sAs rfl rfl ?_ | refine sLb 0 tabs rfl rfl rfl rfl rfl ?_ | (show oA (.call _); first | (refine m_call (ent_of Tryz.func118 kr rfl) rfl rfl (fun w c => l1New_ok (hp_code c hc)) ?_; rintro v H' ⟨b, ch, rfl, rfl⟩) | (refine m_callL 0 (ent_of Tryz.func187 kr rfl) rfl rfl rfl (fun w M' hl => l8Prime_ok hl hc (Nat.zero_le _)) ?_; rintro v H' ⟨i, ch, _, hi, rfl, p, rfl, hp, rfl⟩) | (refine m_callL 0 (ent_of Tryz.func188 kr rfl) rfl rfl rfl (fun w M' hl => l6Acyclic_ok hl hc hi) ?_; rintro v H' ⟨i, ch, _, hi, rfl, q, a, c, a', c', rfl, hq, rfl⟩) | (refine m_callL 1 (ent_of Tryz.func189 kr rfl) rfl rfl rfl (fun w M' hl => l8Of_ok (q := q) p 1 (by decide) hl hc hi (hl.own 2 rfl) (hl.own 1 rfl)) ?_; rintro v H' ⟨i, ch, H0, hi, rfl, hO⟩; obtain ⟨r, hr, x0, x0', x1, x1', x2, x2', x3, x3', rfl, sx0, sx1, sx2, sx3, rfl⟩ := hO.rep hq)) | (show oA (.store _ _ _); refine m_storeb 0 tabs rfl rfl rfl rfl rfl rfl rfl ?_) | (show oA (.alloc _); first | (have _t := tok0; refine m_alloc tabs rfl rfl (fun b2 hb2 => ?_); clear _t tok0) | (have _t := tok1; refine m_alloc tabs rfl rfl (fun bq hbq => ?_); clear _t tok1) | refine m_alloc tabs rfl rfl (fun br hbr => ?_))) | refine xNt ?_ | (show oC; first | refine c_seq ?_ | refine c_region ?_))
  refine c_all (Hp [] w [.blk br #[iV r.p, iV r.q.1, .slice x0 r.q.2.1.length x0', .slice x1 r.q.2.2.length x1', .slice x2 r.d.length x2', .slice x3 r.m.length x3'] 60]) kr (fun _ c => Hp.drew c) ?_
  refine h_take 0 rfl kr kr kr (by first | exact y_loadb 0 tabs rfl rfl rfl rfl | exact y_loadb 0 tabs rfl rfl rfl rfl) rfl sS ?_
  refine h_take 1 rfl kr kr kr (by exact y_move rfl) rfl sS ?_
  refine h_only 2 rfl kr ?_
  first | (refine m_buildi tabs [-1, 0, 1, 2, 3, 9223372036854775807] rfl rfl rfl rfl rfl rfl rfl (fun g hg => ?_)) | (refine m_callL 2 (ent_of Tryz.func119 kr rfl) rfl rfl rfl (fun w M' hl => l1PickInt_ok hl hc hi (hl.own 0 rfl) (by decide)) ?_; rintro v H' ⟨i, ch, _, hi, rfl, n, rfl, hn, rfl⟩) | (refine m_storeb 10 tabs rfl rfl rfl rfl rfl rfl rfl ?_)
  refine c_nil (x_one (h_keep sS ?_))
  refine h_only 3 rfl kr ?_
  first | (refine m_buildi tabs [-1, 0, 1, 2, 3, 9223372036854775807] rfl rfl rfl rfl rfl rfl rfl (fun g hg => ?_)) | (refine m_callL 2 (ent_of Tryz.func119 kr rfl) rfl rfl rfl (fun w M' hl => l1PickInt_ok hl hc hi (hl.own 0 rfl) (by decide)) ?_; rintro v H' ⟨i, ch, _, hi, rfl, n, rfl, hn, rfl⟩) | (refine m_storeb 10 tabs rfl rfl rfl rfl rfl rfl rfl ?_)
  refine c_nil (x_one (h_keep sS ?_))
  refine h_only 4 rfl kr ?_
  first | (refine m_buildi tabs [-1, 0, 1, 2, 3, 9223372036854775807] rfl rfl rfl rfl rfl rfl rfl (fun g hg => ?_)) | (refine m_callL 2 (ent_of Tryz.func119 kr rfl) rfl rfl rfl (fun w M' hl => l1PickInt_ok hl hc hi (hl.own 0 rfl) (by decide)) ?_; rintro v H' ⟨i, ch, _, hi, rfl, n, rfl, hn, rfl⟩) | (refine m_storeb 10 tabs rfl rfl rfl rfl rfl rfl rfl ?_)
  refine c_nil (x_one (h_keep sS ?_))
  refine h_take 5 rfl kr kr kr (by exact y_assign rfl) rfl sS ?_
  refine h_end kr ?_
  repeat' (first | (show oC; refine c_ret ?_) | (show AT _ _ _ _; refine x_then ?_))
  exact x_ret2 Tryz.results76 (res_cellb 10 tabs rfl rfl rfl rfl) (res_tmp rfl) (fun wz cz => ⟨_, [.own (matsT 47 r.m) (.slice x3 r.m.length x3'), .own (iT r.d) (.slice x2 r.d.length x2'), .own (iT r.q.2.2) (.slice x1 r.q.2.2.length x1'), .own (iT r.q.2.1) (.slice x0 r.q.2.1.length x0')], rfl, ⟨n, r, _, rfl, ⟨x0, x0', x1, x1', x2, x2', x3, x3', rfl, sx0, sx1, sx2, sx3, rfl⟩⟩, cz.sel [3, 4, 5, 6] rfl⟩)
def GivesSo (v : Value) (H : List HE) : Prop := ∃ (l : List Rp), ∀ w w', Hp [] w H w' → Rd w' (rpsT 60 l) v
theorem DrawSumOf_ok {w : World} {u : Value} (hc : CodeF w [] u) : Does Tryz.prog 73 [u] w GivesSo := by
  have tok0 : True := trivial
  refine fn_enter Tryz.func73 rfl Tryz.ntmps73 rfl ?_
  repeat' (first | (show oL; first | refine sMv rfl rfl ?_ | refine sAs rfl rfl ?_ | (show oA (.load _ _); first | refine sLb 1 tabs rfl rfl rfl rfl rfl ?_ | refine sLb 2 tabs rfl rfl rfl rfl rfl ?_) | (show oA (.binOp _ _ _ _ _); refine st_y (y_eql rfl rfl) rfl ?_) | (show oA (.call _); first | (refine m_call (ent_of Tryz.func118 kr rfl) rfl rfl (fun w c => l1New_ok (hp_code c hc)) ?_; rintro v H' ⟨b, ch, rfl, rfl⟩) | (refine m_callL 0 (ent_of Tryz.func170 kr rfl) rfl rfl rfl (fun w M' hl => l9Pair_ok hl hc (Nat.zero_le _)) ?_; rintro v H' ⟨i, ch, _, hi, rfl, ra, rb, _, _, _, _, rfl, hP, ⟨x0, x0', x1, x1', x2, x2', x3, x3', rfl, sx0, sx1, sx2, sx3, rfl⟩, ⟨y0, y0', y1, y1', y2, y2', y3, y3', rfl, sy0, sy1, sy2, sy3, rfl⟩, rfl⟩) | (refine m_callL 2 (ent_of Tryz.func120 kr rfl) rfl rfl rfl (fun w M' hl => l1BelowN_ok 4 (by decide) hl hc hi) ?_; rintro v H' ⟨i, ch, _, hi, rfl, k, rfl, hk, rfl⟩)) | (show oA (.extract _ _); refine st_y (y_ext rfl rfl) rfl ?_) | (show oA (.store _ _ _); first | refine m_storeb 0 tabs rfl rfl rfl rfl rfl rfl rfl ?_ | refine m_storeb 1 tabs rfl rfl rfl rfl rfl rfl rfl ?_) | (show oA (.alloc _); first | (have _t := tok0; refine m_alloc tabs rfl rfl (fun b4 hb4 => ?_); clear _t tok0) | refine m_alloc tabs rfl rfl (fun b5 hb5 => ?_)) | (show oA (.buildSlice _ _ _); first | refine m_build0 tabs rfl rfl (fun g hg => ?_) | refine m_build1 tabs (us := [iV ra.p, iV ra.q.1, .slice x0 ra.q.2.1.length x0', .slice x1 ra.q.2.2.length x1', .slice x2 ra.d.length x2', .slice x3 ra.m.length x3']) rfl rfl rfl rfl (by decide) rfl (fun g hg => ?_) | refine m_build36 tabs rfl rfl rfl rfl rfl rfl rfl rfl (fun g hg => ?_))) | refine xNt ?_ | (show oC; first | refine c_seq ?_ | refine c_region ?_ | refine c_skip (x_blk ?_) | refine c_block ?_ | refine c_ret ?_ | refine c_if rfl (fun h => ?_) (fun h => ?_)) | (show AT _ _ _ _; first | refine x_then ?_ | refine x_then_ret ?_ | refine x_blk_ret ?_))
  · exact x_ret1 Tryz.results73 (res_tmp rfl) (fun wz cz => ⟨_, [.own (.s 60 6 []) (.slice (some ⟨g, 0, none⟩) 0 0)], rfl, ⟨[], fun w w' c => c.own_rd (i := 0) rfl⟩, cz.sel [0] rfl⟩)
  · exact x_ret1 Tryz.results73 (res_tmp rfl) (fun wz cz => ⟨_, [.blk g #[iV ra.p, iV ra.q.1, .slice x0 ra.q.2.1.length x0', .slice x1 ra.q.2.2.length x1', .slice x2 ra.d.length x2', .slice x3 ra.m.length x3'] 60, .own (matsT 47 rb.m) (.slice y3 rb.m.length y3'), .own (iT rb.d) (.slice y2 rb.d.length y2'), .own (iT rb.q.2.2) (.slice y1 rb.q.2.2.length y1'), .own (iT rb.q.2.1) (.slice y0 rb.q.2.1.length y0'), .own (matsT 47 ra.m) (.slice x3 ra.m.length x3'), .own (iT ra.d) (.slice x2 ra.d.length x2'), .own (iT ra.q.2.2) (.slice x1 ra.q.2.2.length x1'), .own (iT ra.q.2.1) (.slice x0 ra.q.2.1.length x0')], rfl, ⟨[ra], fun w w' c => ⟨_, 1, 1, rfl, Nat.le_refl _, by unfold maxLen; decide, rfl, (show RdL w' (some ⟨g, 0, none⟩) 0 (rpT ra ++ []) from rdL_rp c (i := 0) (j := 0) rfl rfl rfl rfl rfl rfl rfl (c.own_rd (i := 8) rfl) (c.own_rd (i := 7) rfl) (c.own_rd (i := 6) rfl) (c.own_rd (i := 5) rfl) (trivial))⟩⟩, cz.sel [0, 4, 5, 6, 7, 8, 9, 10, 11] rfl⟩)
  · exact x_ret1 Tryz.results73 (res_tmp rfl) (fun wz cz => ⟨_, [.blk g #[iV rb.p, iV rb.q.1, .slice y0 rb.q.2.1.length y0', .slice y1 rb.q.2.2.length y1', .slice y2 rb.d.length y2', .slice y3 rb.m.length y3', iV ra.p, iV ra.q.1, .slice x0 ra.q.2.1.length x0', .slice x1 ra.q.2.2.length x1', .slice x2 ra.d.length x2', .slice x3 ra.m.length x3', iV rb.p, iV rb.q.1, .slice y0 rb.q.2.1.length y0', .slice y1 rb.q.2.2.length y1', .slice y2 rb.d.length y2', .slice y3 rb.m.length y3'] 60, .own (matsT 47 rb.m) (.slice y3 rb.m.length y3'), .own (iT rb.d) (.slice y2 rb.d.length y2'), .own (iT rb.q.2.2) (.slice y1 rb.q.2.2.length y1'), .own (iT rb.q.2.1) (.slice y0 rb.q.2.1.length y0'), .own (matsT 47 ra.m) (.slice x3 ra.m.length x3'), .own (iT ra.d) (.slice x2 ra.d.length x2'), .own (iT ra.q.2.2) (.slice x1 ra.q.2.2.length x1'), .own (iT ra.q.2.1) (.slice x0 ra.q.2.1.length x0')], rfl, ⟨[rb, ra, rb], fun w w' c => ⟨_, 3, 3, rfl, Nat.le_refl _, by unfold maxLen; decide, rfl, (show RdL w' (some ⟨g, 0, none⟩) 0 (rpT rb ++ (rpT ra ++ (rpT rb ++ []))) from rdL_rp c (i := 0) (j := 0) rfl rfl rfl rfl rfl rfl rfl (c.own_rd (i := 4) rfl) (c.own_rd (i := 3) rfl) (c.own_rd (i := 2) rfl) (c.own_rd (i := 1) rfl) (rdL_rp c (i := 0) (j := 6) rfl rfl rfl rfl rfl rfl rfl (c.own_rd (i := 8) rfl) (c.own_rd (i := 7) rfl) (c.own_rd (i := 6) rfl) (c.own_rd (i := 5) rfl) (rdL_rp c (i := 0) (j := 12) rfl rfl rfl rfl rfl rfl rfl (c.own_rd (i := 4) rfl) (c.own_rd (i := 3) rfl) (c.own_rd (i := 2) rfl) (c.own_rd (i := 1) rfl) (trivial))))⟩⟩, cz.sel [0, 4, 5, 6, 7, 8, 9, 10, 11] rfl⟩)
def GivesRl (v : Value) (H : List HE) : Prop := ∃ (r : Rp) (ks : List Int) (vr : Value) (ak : Option Addr) (ck : Nat) (Hr : List HE), v = .tuple #[vr, .slice ak ks.length ck] ∧ ks.length ≤ 1048576 ∧ GivesR r vr Hr ∧ H = .own (iT ks) (.slice ak ks.length ck) :: Hr
theorem DrawRestrictRep_ok {w : World} {u : Value} (hc : CodeF w [] u) : Does Tryz.prog 79 [u] w GivesRl := by
  have tok0 : True := trivial
  refine fn_enter Tryz.func79 rfl Tryz.ntmps79 rfl ?_
  repeat' (first | (show oL; first | refine sMv rfl rfl ?_ | refine sAs rfl rfl ?_ | (show oA (.call _); first | (refine m_call (ent_of Tryz.func118 kr rfl) rfl rfl (fun w c => l1New_ok (hp_code c hc)) ?_; rintro v H' ⟨b, ch, rfl, rfl⟩) | (refine m_callL 0 (ent_of Tryz.func168 kr rfl) rfl rfl rfl (fun w M' hl => l8Any_ok hl hc (Nat.zero_le _)) ?_; rintro v H' ⟨i, ch, _, hi, rfl, r, hr, x0, x0', x1, x1', x2, x2', x3, x3', rfl, sx0, sx1, sx2, sx3, rfl⟩)) | (show oA (.store _ _ _); refine m_storeb 0 tabs rfl rfl rfl rfl rfl rfl rfl ?_) | (show oA (.alloc _); first | (have _t := tok0; refine m_alloc tabs rfl rfl (fun b2 hb2 => ?_); clear _t tok0) | refine m_alloc tabs rfl rfl (fun b5 hb5 => ?_)) | (show oA (.buildSlice _ _ _); refine m_build0 tabs rfl rfl (fun g hg => ?_))) | refine xNt ?_ | (show oC; first | refine c_seq ?_ | refine c_region ?_ | refine c_block ?_))
  refine c_loopH (α := (List Int × Option Addr × Nat) × Nat × Nat × Int) [2, 4, 5] (fun s => [(6, .slice s.1.2.1 s.1.1.length s.1.2.2), (7, iV s.2.1)]) (fun s => (s.1.1.length ≤ s.2.1 ∧ s.2.1 ≤ 5) ∧ s.2.2.1 ≤ vlen u) (fun s => [.own (iT s.1.1) (.slice s.1.2.1 s.1.1.length s.1.2.2), cu u b s.2.2.1 s.2.2.2, .blk b5 #[iV r.p, iV r.q.1, .slice x0 r.q.2.1.length x0', .slice x1 r.q.2.2.length x1', .slice x2 r.d.length x2', .slice x3 r.m.length x3'] 60, .own (matsT 47 r.m) (.slice x3 r.m.length x3'), .own (iT r.d) (.slice x2 r.d.length x2'), .own (iT r.q.2.2) (.slice x1 r.q.2.2.length x1'), .own (iT r.q.2.1) (.slice x0 r.q.2.1.length x0'), .blk b2 #[iV 0, iV 0, .slice none 0 0, .slice none 0 0, .slice none 0 0, .slice none 0 0] 60]) (fun s => 5 - s.2.1) (([], some ⟨g, 0, none⟩, 0), 0, i, ch) rfl sB ?_ ?_ ?_
  · exact ⟨⟨Nat.le_refl _, by simp⟩, hi⟩
  · exact fun w' c' => c'.sel [0, 2, 1, 3, 4, 5, 6, 7] rfl
  · rintro ⟨⟨ks, ak, ck⟩, k, i, ch⟩ ⟨⟨hk, hk5⟩, hi⟩
    simp only at hk hk5 hi ⊢
    by_cases hin : k < 5
    · repeat' (first | (show oL; first | refine sMv rfl rfl ?_ | refine sAs rfl rfl ?_ | refine sFd tabs rfl rfl rfl rfl ?_ | refine sLd 2 tabs rfl rfl rfl rfl rfl ?_ | (show oA (.binOp _ _ _ _ _); first | refine sAd rfl rfl om rfl ?_ | refine sLs rfl rfl rfl ?_) | (show oA (.call _); first | (refine m_callL 1 (ent_of Tryz.func127 kr rfl) rfl rfl rfl (fun w M' hl => l1Once_ok 2 hl hc hi) ?_; rintro v H' ⟨i, ch, _, hi, rfl, (_ | _), rfl, rfl⟩) | refine m_pushi 1 tabs rfl rfl rfl rfl rfl om (fun a3 c3 => ?_)) | (show oA (.pick _ _ _); refine st_y (y_pick rfl rfl rfl) rfl ?_) | (show oA (.buildSlice _ _ _); refine m_build1 tabs (us := [iV k]) rfl rfl rfl rfl (by decide) rfl (fun g2 hg2 => ?_)) | refine st_gy rfl rfl ?_ | refine st_gn rfl rfl rfl ?_) | (show oN; first | refine c_nil (x_then ?_) | refine c_nil ?_) | (show oC; first | refine c_seq ?_ | refine c_region ?_ | refine c_skip (x_then ?_) | refine c_skip (x_blk ?_) | refine c_block ?_ | refine c_false rfl ?_ | refine c_ift rfl aO ?_ | refine c_if rfl (fun h => ?_) (fun h => ?_)) | (show AT _ _ _ _; first | refine x_then ?_ | refine x_blk ?_))
      all_goals first | exact x_nx ((ks ++ [(k : Int)], a3, c3), k + 1, i, ch) (by simp only [List.length_append, List.length_singleton]; repeat' (first | exact Sub.nil | refine Sub.cons rfl ?_ | refine Sub.consi rfl om ?_)) (by simp only [List.length_append, List.length_singleton]; omega) (fun w' c' => by simp only [List.length_append, List.length_singleton]; exact c') (by simp only; omega) | exact x_nx ((ks, ak, ck), k + 1, i, ch) sB (by simp only; omega) (fun w' c' => c'.sel [1, 0, 2, 3, 4, 5, 6, 7] rfl) (by simp only; omega)
    · have hk0 : k = 5 := by omega
      subst hk0
      repeat' (first | (show oL; first | refine sMv rfl rfl ?_ | refine sAs rfl rfl ?_ | refine sLb 2 tabs rfl rfl rfl rfl rfl ?_ | (show oA (.binOp _ _ _ _ _); first | refine st_y (y_sub rfl rfl om) rfl ?_ | refine sLs rfl rfl rfl ?_) | (show oA (.call _); first | (refine m_callL 1 (ent_of Tryz.func127 kr rfl) rfl rfl rfl (fun w M' hl => l1Once_ok 12 hl hc hi) ?_; rintro v H' ⟨i, ch, _, hi, rfl, (_ | _), rfl, rfl⟩) | (refine m_callL 0 (ent_of Tryz.func120 kr rfl) rfl rfl rfl (fun w M' hl => l1BelowN_ok 6 (by decide) hl hc hi) ?_; rintro v H' ⟨i, ch, _, hi, rfl, y, rfl, hy, rfl⟩) | refine m_pushi 1 tabs rfl rfl rfl rfl rfl om (fun a3 c3 => ?_)) | (show oA (.store _ _ _); refine m_storeb 7 tabs rfl rfl rfl rfl rfl rfl rfl ?_) | (show oA (.buildSlice _ _ _); refine m_build1 tabs (us := [iV ((y : Int) - 1)]) rfl rfl rfl rfl (by decide) rfl (fun g2 hg2 => ?_))) | refine xNt ?_ | (show oC; first | refine c_seq ?_ | refine c_region ?_ | refine c_skip (x_then ?_) | refine c_ret ?_ | refine c_exit ?_ | refine c_true rfl ?_ | refine c_false rfl ?_) | (show AT _ _ _ _; first | refine x_then ?_ | refine x_then_exit ?_ | refine x_blk_exit rfl ?_))
      · exact x_ret2 Tryz.results79 (res_cellb 7 tabs rfl rfl rfl rfl) (res_tmp rfl) (fun wz cz => ⟨_, _, rfl, ⟨r, ks, _, ak, ck, [.own (matsT 47 r.m) (.slice x3 r.m.length x3'), .own (iT r.d) (.slice x2 r.d.length x2'), .own (iT r.q.2.2) (.slice x1 r.q.2.2.length x1'), .own (iT r.q.2.1) (.slice x0 r.q.2.1.length x0')], rfl, by omega, ⟨x0, x0', x1, x1', x2, x2', x3, x3', rfl, sx0, sx1, sx2, sx3, rfl⟩, rfl⟩, cz.sel [1, 3, 4, 5, 6] rfl⟩)
      · exact x_ret2 Tryz.results79 (res_cellb 7 tabs rfl rfl rfl rfl) (res_tmp rfl) (fun wz cz => ⟨_, [.own (iT (ks ++ [(y : Int) - 1])) (.slice a3 (ks.length + 1) c3), .own (matsT 47 r.m) (.slice x3 r.m.length x3'), .own (iT r.d) (.slice x2 r.d.length x2'), .own (iT r.q.2.2) (.slice x1 r.q.2.2.length x1'), .own (iT r.q.2.1) (.slice x0 r.q.2.1.length x0')], rfl, ⟨r, ks ++ [(y : Int) - 1], _, a3, c3, [.own (matsT 47 r.m) (.slice x3 r.m.length x3'), .own (iT r.d) (.slice x2 r.d.length x2'), .own (iT r.q.2.2) (.slice x1 r.q.2.2.length x1'), .own (iT r.q.2.1) (.slice x0 r.q.2.1.length x0')], by rw [List.length_append, List.length_singleton], by rw [List.length_append, List.length_singleton]; omega, ⟨x0, x0', x1, x1', x2, x2', x3, x3', rfl, sx0, sx1, sx2, sx3, rfl⟩, by rw [List.length_append, List.length_singleton]⟩, cz.sel [0, 3, 4, 5, 6] rfl⟩)
end Go.Proofs.YtijjkfbkihgfgaaGreat
