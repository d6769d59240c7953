import Derived.Test.YtijjkfbkihgfgaaGreatDrwqsu
import Derived.Test.YtijjkfbkihgfgaaGreatLGqsu
import Derived.Test.YtijjkfbkihgfgaaGreatMxfqsu
import Derived.Test.YtijjkfbkihgfgaaGreatOpnqsu
import Derived.Test.YtijjkfbkihgfgaaGreatQupqsu
import Derived.Test.YtijjkfbkihgfgaaGreatRepqsu
import Derived.Test.YtijjkfbkihgfgaaGreatShrqsu
import Derived.Test.YtijjkfbkihgfgaaGreatZerqsu
namespace Go.Proofs.YtijjkfbkihgfgaaGreat
open Go.Lg Go.Proofs Go.RowKit
attribute [local irreducible] Code.wp wpList bodyPost Exit.then Exit.inBlock Hp Again Calls Y AT ResV QT Qn QI wpAny wpAnyQ
set_option maxRecDepth 20000
set_option maxHeartbeats 4000000

def dg (x : Int) : UInt8 := UInt8.ofNat (48 + x.toNat)
theorem dg_conv {x : Int} (h0 : 0 ≤ x) (h9 : x ≤ 9) : IntKind.u8.wrap (48 + x) = ((dg x).toNat : Int) := by
  obtain ⟨k, rfl⟩ : ∃ k : Nat, x = k := ⟨x.toNat, by omega⟩
  have hk : k < 10 := by omega
  match k, hk with
  | 0, _ => rfl
  | 1, _ => rfl
  | 2, _ => rfl
  | 3, _ => rfl
  | 4, _ => rfl
  | 5, _ => rfl
  | 6, _ => rfl
  | 7, _ => rfl
  | 8, _ => rfl
  | 9, _ => rfl
def fiN (n : Int) : Nat → Int
  | 0 => n
  | _ + 1 => 0
def fiS (n : Int) : Nat → List UInt8
  | 0 => []
  | _ + 1 => [dg n]
theorem spec_FormatInt_ok {w : World} {n : Int} (h0 : 0 ≤ n) (h9 : n ≤ 9) : Does Tryz.prog 315 [iV n] w (fun r H => r = sV [dg n] ∧ H = []) := by
  by_cases hn : n = 0
  · subst hn
    refine fn_enter Tryz.func315 rfl Tryz.ntmps315 rfl ?_
    repeat' (first | (show oL; first | refine sMv rfl rfl ?_ | refine sAs rfl rfl ?_ | (show oA (.binOp _ _ _ _ _); first | refine sAd rfl rfl om rfl ?_ | refine sLs rfl rfl rfl ?_ | refine st_y (y_eql rfl rfl) rfl ?_ | refine st_y (y_neq rfl rfl) rfl ?_ | refine st_y (y_neqb_same Tryz.underlying4 rfl rfl) rfl ?_) | (show oA (.unOp _ _ _); first | refine st_y (y_notd rfl) rfl ?_ | refine st_y (y_not rfl) rfl ?_) | (show oA (.buildSlice _ _ _); refine m_build0 tabs rfl rfl (fun g hg => ?_))) | (show oN; first | refine c_nil (x_then ?_) | refine c_nil (x_qn ?_) | refine c_nil ?_) | (show oC; first | refine c_seq ?_ | refine c_region ?_ | refine c_skip (x_then ?_) | refine c_skip (x_blk ?_) | refine c_skip ?_ | refine c_block ?_ | refine c_ret ?_ | refine c_exit ?_ | refine c_true rfl ?_ | refine c_false rfl ?_ | refine c_ift rfl aO ?_ | refine c_iff rfl nN ?_ | refine c_ifnd rfl (fun h => ?_) (fun h => ?_) | refine c_if rfl (fun h => ?_) (fun h => ?_) | refine c_ifn rfl (fun h => ?_) (fun h => ?_)) | (show AT _ _ _ _; first | refine x_then ?_ | refine x_qn ?_ | refine x_then_ret ?_ | refine x_blk_ret ?_ | refine x_then_exit ?_ | refine x_blk_exit rfl ?_ | refine x_blk_other rfl ?_ | refine x_blk ?_))
    exact x_ret1 Tryz.results315 (res_tmp rfl) (fun w' c' => ⟨_, _, rfl, ⟨rfl, rfl⟩, c'.sub (List.nil_sublist _)⟩)
  · have e1 : n.tmod 10 = n := Int.tmod_eq_of_lt h0 om
    have e2 : IntKind.i64.wrap (n.tdiv 10) = 0 := by
      rw [Int.tdiv_eq_zero_of_lt h0 om]; rfl
    refine fn_enter Tryz.func315 rfl Tryz.ntmps315 rfl ?_
    repeat' (first | (show oL; first | refine sMv rfl rfl ?_ | refine sAs rfl rfl ?_ | (show oA (.binOp _ _ _ _ _); first | refine sAd rfl rfl om rfl ?_ | refine sLs rfl rfl rfl ?_ | refine st_y (y_eql rfl rfl) rfl ?_ | refine st_y (y_neq rfl rfl) rfl ?_ | refine st_y (y_neqb_same Tryz.underlying4 rfl rfl) rfl ?_) | (show oA (.unOp _ _ _); first | refine st_y (y_notd rfl) rfl ?_ | refine st_y (y_not rfl) rfl ?_) | (show oA (.buildSlice _ _ _); refine m_build0 tabs rfl rfl (fun g hg => ?_))) | (show oN; first | refine c_nil (x_then ?_) | refine c_nil (x_qn ?_) | refine c_nil ?_) | (show oC; first | refine c_seq ?_ | refine c_region ?_ | refine c_skip (x_then ?_) | refine c_skip (x_blk ?_) | refine c_skip ?_ | refine c_block ?_ | refine c_ret ?_ | refine c_exit ?_ | refine c_true rfl ?_ | refine c_false rfl ?_ | refine c_ift rfl aO ?_ | refine c_iff rfl nN ?_ | refine c_ifnd rfl (fun h => ?_) (fun h => ?_) | refine c_if rfl (fun h => ?_) (fun h => ?_) | refine c_ifn rfl (fun h => ?_) (fun h => ?_)) | (show AT _ _ _ _; first | refine x_then ?_ | refine x_qn ?_ | refine x_then_ret ?_ | refine x_blk_ret ?_ | refine x_then_exit ?_ | refine x_blk_exit rfl ?_ | refine x_blk_other rfl ?_ | refine x_blk ?_))
    refine c_loopH (α := Nat) [4] (fun k => [(0, iV (fiN n k)), (3, sV (fiS n k))]) (fun k => k ≤ 1) (fun k => []) (fun k => 1 - k) 0 rfl sB ?_ ?_ ?_
    · omega
    · exact fun w' c' => c'
    · intro k hk
      match k, hk with
      | 0, _ =>
        simp only [fiN, fiS]
        repeat' (first | (show oL; first | refine sMv rfl rfl ?_ | refine sAs rfl rfl ?_ | (show oA (.binOp _ _ _ _ _); first | refine st_y (y_rem rfl rfl (by decide)) rfl ?_ | refine st_y (y_cat rfl rfl (by simp) (by simp)) rfl ?_ | refine st_y (y_quo rfl rfl (by decide)) rfl ?_ | refine sAd rfl rfl om rfl ?_ | refine sLs rfl rfl rfl ?_ | refine st_y (y_eql rfl rfl) rfl ?_ | refine st_y (y_neq rfl rfl) rfl ?_ | refine st_y (y_neqb_same Tryz.underlying4 rfl rfl) rfl ?_) | (show oA (.unOp _ _ _); first | refine st_y (y_notd rfl) rfl ?_ | refine st_y (y_not rfl) rfl ?_) | (show oA (.buildSlice _ _ _); first | refine m_build1 tabs (us := [bV (dg n)]) rfl rfl rfl rfl (by decide) rfl (fun g hg => ?_) | refine m_build0 tabs rfl rfl (fun g hg => ?_)) | (show oA (.convert _ _ _); first | refine st_y (y_convk (t := 3) (t' := 5) (k := .i64) (k' := .u8) (q := ((dg n).toNat : Int)) kr kr kr rfl (by rw [e1]; exact dg_conv h0 h9)) rfl ?_ | refine st_y (y_convbs (t := 22) (t' := 9) (e := 5) (l := [dg n]) kr kr kr rfl (fun w c => fun j u hj => by rw [Addr.add_lit]; exact hc_blk 0 rfl (by rw [Nat.zero_add, List.getElem?_toArray]; exact hj) w c)) rfl ?_)) | (show oN; first | refine c_nil (x_then ?_) | refine c_nil (x_qn ?_) | refine c_nil ?_) | (show oC; first | refine c_seq ?_ | refine c_region ?_ | refine c_skip (x_then ?_) | refine c_skip (x_blk ?_) | refine c_skip ?_ | refine c_block ?_ | refine c_ret ?_ | refine c_exit ?_ | refine c_true rfl ?_ | refine c_false rfl ?_ | refine c_ift rfl aO ?_ | refine c_iff rfl nN ?_ | refine c_ifnd rfl (fun h => ?_) (fun h => ?_) | refine c_if rfl (fun h => ?_) (fun h => ?_) | refine c_ifn rfl (fun h => ?_) (fun h => ?_)) | (show AT _ _ _ _; first | refine x_then ?_ | refine x_qn ?_ | refine x_then_ret ?_ | refine x_blk_ret ?_ | refine x_then_exit ?_ | refine x_blk_exit rfl ?_ | refine x_blk_other rfl ?_ | refine x_blk ?_))
        rw [e2]
        exact x_nx 1 sB om (fun w' c' => c'.sub (List.nil_sublist _)) om
      | 1, _ =>
        simp only [fiN, fiS]
        repeat' (first | (show oL; first | refine sMv rfl rfl ?_ | refine sAs rfl rfl ?_ | (show oA (.binOp _ _ _ _ _); first | refine sAd rfl rfl om rfl ?_ | refine sLs rfl rfl rfl ?_ | refine st_y (y_eql rfl rfl) rfl ?_ | refine st_y (y_neq rfl rfl) rfl ?_ | refine st_y (y_neqb_same Tryz.underlying4 rfl rfl) rfl ?_) | (show oA (.unOp _ _ _); first | refine st_y (y_notd rfl) rfl ?_ | refine st_y (y_not rfl) rfl ?_) | (show oA (.buildSlice _ _ _); refine m_build0 tabs rfl rfl (fun g hg => ?_))) | (show oN; first | refine c_nil (x_then ?_) | refine c_nil (x_qn ?_) | refine c_nil ?_) | (show oC; first | refine c_seq ?_ | refine c_region ?_ | refine c_skip (x_then ?_) | refine c_skip (x_blk ?_) | refine c_skip ?_ | refine c_block ?_ | refine c_ret ?_ | refine c_exit ?_ | refine c_true rfl ?_ | refine c_false rfl ?_ | refine c_ift rfl aO ?_ | refine c_iff rfl nN ?_ | refine c_ifnd rfl (fun h => ?_) (fun h => ?_) | refine c_if rfl (fun h => ?_) (fun h => ?_) | refine c_ifn rfl (fun h => ?_) (fun h => ?_)) | (show AT _ _ _ _; first | refine x_then ?_ | refine x_qn ?_ | refine x_then_ret ?_ | refine x_blk_ret ?_ | refine x_then_exit ?_ | refine x_blk_exit rfl ?_ | refine x_blk_other rfl ?_ | refine x_blk ?_))
        exact x_ret1 Tryz.results315 (res_tmp rfl) (fun w' c' => ⟨_, _, rfl, ⟨rfl, rfl⟩, c'.sub (List.nil_sublist _)⟩)
end Go.Proofs.YtijjkfbkihgfgaaGreat

namespace Go.Lg
open Go.RowKit
section
variable {P : Program} {n : Nat} {C : World → Prop} {s : List (Nat × Value)} {ty t : Nat} {x lo' hi' : Operand}
theorem y_sls {a : List UInt8} {i j : Nat} {p q : Int} (ht : P.underlying t = some .string) (hx : ev s x = some (sV a)) (hl : ev s lo' = some (.int .i64 p)) (hh : ev s hi' = some (.int .i64 q)) (hp : p = (i : Int)) (hq : q = (j : Int)) (h1 : i ≤ j) (h2 : j ≤ a.length) : Y P n C s (.slice t x (some lo') (some hi') none) ty (sV ((a.drop i).take (j - i))) := fun aa w f c d pos af g => by
  subst hp; subst hq
  simp only [sV] at hx
  have h := run_slice_string (P := P) w t ⟨a.toArray⟩ .i64 .i64 i j ht om om (by simp [ByteArray.size]; omega)
  simp only [Int.toNat_natCast, ByteArray.extract_mk] at h
  simp [execOp, f.ev hx, f.ev hl, f.ev hh, run_sliceAt_string, ht, h, sV]
end
end Go.Lg
namespace Go.Proofs.YtijjkfbkihgfgaaGreat
open Go.Lg Go.Proofs Go.RowKit
attribute [local irreducible] Code.wp wpList bodyPost Exit.then Exit.inBlock Hp Again Calls Y AT ResV QT Qn QI wpAny wpAnyQ
set_option maxRecDepth 20000
set_option maxHeartbeats 4000000

theorem dg_ne {x : Int} (h0 : 0 ≤ x) (h9 : x ≤ 9) : dg x ≠ 32 ∧ dg x ≠ 58 ∧ ((dg x).toNat : Int) - 48 = x := by
  obtain ⟨k, rfl⟩ : ∃ k : Nat, x = k := ⟨x.toNat, by omega⟩
  have hk : k < 10 := by omega
  match k, hk with
  | 0, _ => exact ⟨by decide, by decide, rfl⟩
  | 1, _ => exact ⟨by decide, by decide, rfl⟩
  | 2, _ => exact ⟨by decide, by decide, rfl⟩
  | 3, _ => exact ⟨by decide, by decide, rfl⟩
  | 4, _ => exact ⟨by decide, by decide, rfl⟩
  | 5, _ => exact ⟨by decide, by decide, rfl⟩
  | 6, _ => exact ⟨by decide, by decide, rfl⟩
  | 7, _ => exact ⟨by decide, by decide, rfl⟩
  | 8, _ => exact ⟨by decide, by decide, rfl⟩
  | 9, _ => exact ⟨by decide, by decide, rfl⟩
def prtQ (q : Qv) : Nat → List UInt8
  | 0 => [dg q.1, 58]
  | k + 1 => [dg (q.2.1.getD k 0), dg (q.2.2.getD k 0)]
def fmA (q : Qv) : Nat → List UInt8
  | 0 => prtQ q 0
  | i + 1 => fmA q i ++ 32 :: prtQ q (i + 1)
def fmtQ (q : Qv) : List UInt8 := if QuivP q then fmA q q.2.1.length else []
theorem fmA_len {q : Qv} : ∀ i, (fmA q i).length = 3 * i + 2
  | 0 => rfl
  | i + 1 => by
    rw [fmA, List.length_append, fmA_len i, prtQ]
    simp only [List.length_cons, List.length_nil]; omega
theorem fmtQ_len (q : Qv) : (fmtQ q).length ≤ 20 := by
  unfold fmtQ
  split
  · rename_i h
    have := h.2.1
    rw [fmA_len]; omega
  · simp
theorem fmA_get {q : Qv} : ∀ {i k : Nat}, k < i → (fmA q i).getD (3 * k + 3) 0 = dg (q.2.1.getD k 0) ∧ (fmA q i).getD (3 * k + 4) 0 = dg (q.2.2.getD k 0)
  | 0, k, h => by omega
  | i + 1, k, h => by
    have hl := fmA_len (q := q) i
    by_cases hk : k < i
    · have := fmA_get (q := q) hk
      rw [fmA]
      simp only [List.getD, List.getElem?_append_left (show 3 * k + 3 < (fmA q i).length by omega), List.getElem?_append_left (show 3 * k + 4 < (fmA q i).length by omega)]
      exact this
    · have : k = i := by omega
      subst this
      rw [fmA]
      simp only [List.getD, List.getElem?_append_right (show (fmA q k).length ≤ 3 * k + 3 by omega), List.getElem?_append_right (show (fmA q k).length ≤ 3 * k + 4 by omega), hl]
      rw [show 3 * k + 3 - (3 * k + 2) = 1 by omega, show 3 * k + 4 - (3 * k + 2) = 2 by omega]
      exact ⟨rfl, rfl⟩
theorem fmA_head {q : Qv} : ∀ i, (fmA q i).getD 0 0 = dg q.1
  | 0 => rfl
  | i + 1 => by
    have hl := fmA_len (q := q) i
    rw [fmA]
    simp only [List.getD, List.getElem?_append_left (show 0 < (fmA q i).length by omega)]
    exact fmA_head i
def candQ (s : List UInt8) : Qv := (((s.getD 0 0).toNat : Int) - 48, (List.range ((s.length - 2) / 3)).map (fun i => ((s.getD (3 * i + 3) 0).toNat : Int) - 48), (List.range ((s.length - 2) / 3)).map (fun i => ((s.getD (3 * i + 4) 0).toNat : Int) - 48))
def parP (s : List UInt8) : Prop := QuivP (candQ s) ∧ fmtQ (candQ s) = s
instance (s : List UInt8) : Decidable (parP s) := by unfold parP; infer_instance
def parQ (s : List UInt8) : Qv := if parP s then candQ s else (0, [], [])
theorem quiv_rng {q : Qv} (h : QuivP q) : (∀ k, k < q.2.1.length → 0 ≤ q.2.1.getD k 0 ∧ q.2.1.getD k 0 ≤ 4) ∧ ∀ k, k < q.2.1.length → 0 ≤ q.2.2.getD k 0 ∧ q.2.2.getD k 0 ≤ 4 := by
  obtain ⟨hV, h6, ht, hf, hg⟩ := h
  constructor
  · intro k hk
    have := hf _ (getD_in hk)
    omega
  · intro k hk
    have := hg _ (getD_in (show k < q.2.2.length by omega))
    omega
theorem list_range {l : List Int} {n : Nat} (h : l.length = n) : (List.range n).map (fun i => l.getD i 0) = l := (mkv_of h).symm
theorem cand_fmt {q : Qv} (h : QuivP q) : candQ (fmtQ q) = q := by
  have hr := quiv_rng h
  obtain ⟨V, F, T⟩ := q
  have hV := h.1
  have hT := h.2.2.1
  simp only at hr hV hT
  rw [fmtQ, if_pos h, candQ, fmA_len]
  simp only
  rw [show (3 * F.length + 2 - 2) / 3 = F.length by omega, fmA_head]
  have e1 : (List.range F.length).map (fun i => (((fmA (V, F, T) F.length).getD (3 * i + 3) 0).toNat : Int) - 48) = F := by
    rw [← list_range (l := F) rfl, List.length_map, List.length_range]
    refine List.map_congr_left (fun i hi => ?_)
    have hi' := List.mem_range.1 hi
    rw [list_range rfl, (fmA_get hi').1]
    exact (dg_ne (hr.1 i hi').1 (by have := hr.1 i hi'; omega)).2.2
  have e2 : (List.range F.length).map (fun i => (((fmA (V, F, T) F.length).getD (3 * i + 4) 0).toNat : Int) - 48) = T := by
    rw [← list_range (l := T) hT]
    refine List.map_congr_left (fun i hi => ?_)
    have hi' := List.mem_range.1 hi
    rw [list_range hT, (fmA_get hi').2]
    exact (dg_ne (hr.2 i hi').1 (by have := hr.2 i hi'; omega)).2.2
  rw [e1, e2, (dg_ne (x := V) om om).2.2]
theorem par_iff {s : List UInt8} : parP s ↔ ∃ q, QuivP q ∧ fmtQ q = s := by
  constructor
  · exact fun h => ⟨_, h⟩
  · rintro ⟨q, h, rfl⟩
    rw [parP, cand_fmt h]
    exact ⟨h, rfl⟩
theorem parQ_fmt {q : Qv} (h : QuivP q) : parQ (fmtQ q) = q := by rw [parQ, if_pos (par_iff.2 ⟨q, h, rfl⟩), cand_fmt h]
def spR (d : UInt8) (s : List UInt8) : List (List UInt8) × List UInt8 := s.foldl (fun r x => if x = d then (r.1 ++ [r.2], []) else (r.1, r.2 ++ [x])) ([], [])
def spL (d : UInt8) (s : List UInt8) : List (List UInt8) := (spR d s).1 ++ [(spR d s).2]
theorem spR_next {d : UInt8} {s : List UInt8} {i : Nat} (h : i < s.length) : spR d (s.take (i + 1)) = if s.getD i 0 = d then ((spR d (s.take i)).1 ++ [(spR d (s.take i)).2], []) else ((spR d (s.take i)).1, (spR d (s.take i)).2 ++ [s.getD i 0]) := by
  rw [List.take_add_one, List.getElem?_eq_getElem h, spR, List.foldl_append]
  simp only [Option.toList_some, List.foldl_cons, List.foldl_nil, List.getD, List.getElem?_eq_getElem h, Option.getD_some]
  rfl
theorem spR_len {d : UInt8} {s : List UInt8} : ∀ i, i ≤ s.length → (spR d (s.take i)).1.length ≤ i ∧ (spR d (s.take i)).2.length ≤ i
  | 0, _ => by simp [spR]
  | i + 1, h => by
    have ih := spR_len (d := d) (s := s) i om
    rw [spR_next om]
    split
    · simp only [List.length_append, List.length_singleton, List.length_nil]; omega
    · simp only [List.length_append, List.length_singleton]; omega
def preQ (q : Qv) : Nat → List (List UInt8)
  | 0 => []
  | i + 1 => preQ q i ++ [prtQ q i]
theorem preQ_len {q : Qv} : ∀ i, (preQ q i).length = i
  | 0 => rfl
  | i + 1 => by rw [preQ, List.length_append, preQ_len i]; rfl
theorem preQ_get {q : Qv} : ∀ {i k : Nat}, k < i → (preQ q i)[k]? = some (prtQ q k)
  | 0, k, h => by omega
  | i + 1, k, h => by
    have hl := preQ_len (q := q) i
    rw [preQ]
    by_cases hk : k < i
    · rw [List.getElem?_append_left om]; exact preQ_get hk
    · have : k = i := by omega
      subst this
      rw [List.getElem?_append_right om, hl, Nat.sub_self]; rfl
theorem cut_fmA {q : Qv} (hV : 0 ≤ q.1 ∧ q.1 ≤ 9) (hr : (∀ k, k < q.2.1.length → 0 ≤ q.2.1.getD k 0 ∧ q.2.1.getD k 0 ≤ 4) ∧ ∀ k, k < q.2.1.length → 0 ≤ q.2.2.getD k 0 ∧ q.2.2.getD k 0 ≤ 4) : ∀ i, i ≤ q.2.1.length → spR 32 (fmA q i) = (preQ q i, prtQ q i)
  | 0, _ => by
    have h1 := (dg_ne hV.1 hV.2).1
    simp [fmA, prtQ, spR, preQ, h1]
  | i + 1, h => by
    have ih := cut_fmA hV hr i om
    have a1 := hr.1 i om
    have a2 := hr.2 i om
    have h1 := (dg_ne a1.1 om).1
    have h2 := (dg_ne a2.1 om).1
    rw [fmA, spR, List.foldl_append]
    rw [spR] at ih
    rw [ih, show prtQ q (i + 1) = [dg (q.2.1.getD i 0), dg (q.2.2.getD i 0)] from rfl, preQ]
    simp only [List.foldl_cons, List.foldl_nil, if_true, if_neg h1, if_neg h2]
    rfl
theorem cut_fmtQ {q : Qv} (h : QuivP q) : spL 32 (fmtQ q) = preQ q (q.2.1.length + 1) := by
  have hV := h.1
  rw [fmtQ, if_pos h, spL, cut_fmA om (quiv_rng h) _ (Nat.le_refl _)]
  rfl
end Go.Proofs.YtijjkfbkihgfgaaGreat

namespace Go.Lg
open Go.RowKit
section
variable {P : Program} {n : Nat} {M : List Nat} {w0 : World} {H : List HE} {s : List (Nat × Value)} {Q : Exit → Act → World → Prop} {ops : Array Oper} {rest : List Oper}
variable {d ty t t' : Nat} {pos : String} {af : Array Edge} {v : Value} {x y : Operand}
theorem y_eqlk {C : World → Prop} {k : IntKind} {p q : Int} (hx : ev s x = some (.int k p)) (hy : ev s y = some (.int k q)) : Y P n C s (.binOp .eql t x y t') ty (.bool (decide (p = q))) := fun a w f c d pos af g => by
  simp [execOp, f.ev hx, f.ev hy, eqGuard, binOp, Op.intCmp, ibeq]
theorem m_pushc (i : Nat) (T0 : Tabs P) {e g e' b c : Nat} {z us : List Value} {u : Value} (ht : lk T0.sl t = some (e, 1, b, z)) (hi : H[i]? = some (.own (.s e 1 (us.map T.c)) v)) (hx : ev s x = some v) (hy : ev s y = some (.slice (some ⟨g, 0, none⟩) 1 c)) (hd : Nat.blt d n = true)
    (hu : u.oneCell' = true) (hb : us.length ≤ 1099511627) (hb1 : Nat.ble 1 b = true) (hb2 : Nat.ble b 1024 = true)
    (h : ∀ a cc, AT n (Hp M w0 (.own (.s e 1 ((us ++ [u]).map T.c)) (.slice a (us.length + 1) cc) :: H.eraseIdx i)) ((d, .slice a (us.length + 1) cc) :: s) (wpList P ops Q rest)) :
    AT n (Hp M w0 (.blk g #[u] e' :: H)) s (wpList P ops Q (⟨some d, .call ⟨.builtin .append, #[x, y], #[t, t]⟩, ty, pos, af, none⟩ :: rest)) := by
  have hb1' := Nat.le_of_ble_eq_true hb1
  have hb2' := Nat.le_of_ble_eq_true hb2
  refine m_app (ts := us.map T.c) (tn := [T.c u]) (news := [u]) (m' := us.length + 1) (m := 1) (H' := H.eraseIdx i) T0 ht hx hy hd (by simp) (by simpa using hu) (by simp) ?_ om
    (fun w c => ?_) (fun w c => .inr ⟨_, rfl, fun j q hq => ?_⟩) ?_
  · simp only [List.length_map, List.length_singleton]
    have := Nat.mul_le_mul (show us.length + 1 ≤ 1099511628 by omega) hb2'
    omega
  · have := (c.drop.front hi).free [u]
    exact this.swap
  · match j, hq with
    | 0, hq =>
      have := hc_blk (M := M) (w0 := w0) 0 (o := 0) (v := u) (H := .blk g #[u] e' :: H) rfl rfl w c
      simp at hq
      subst hq
      simpa [Addr.add] using this
    | j + 1, hq => simp at hq
  · intro a cc
    have := h a cc
    rwa [List.map_append] at this
end
end Go.Lg
namespace Go.Proofs.YtijjkfbkihgfgaaGreat
open Go.Lg Go.Proofs Go.RowKit
attribute [local irreducible] Code.wp wpList bodyPost Exit.then Exit.inBlock Hp Again Calls Y AT ResV QT Qn QI wpAny wpAnyQ
set_option maxRecDepth 20000
set_option maxHeartbeats 4000000

abbrev strT (l : List (List UInt8)) : T := .s 9 1 ((l.map sV).map T.c)
theorem str_snoc {l : List (List UInt8)} {x : List UInt8} : strT (l ++ [x]) = .s 9 1 ((l.map sV ++ [sV x]).map T.c) := by simp [strT]
theorem l6Cut_ok {w : World} {s : List UInt8} {by' : Int} {d : UInt8} (hd : by' = (d.toNat : Int)) (hl : s.length ≤ 1000000) : Does Tryz.prog 307 [sV s, .int .u8 by'] w (fun v H => ∃ a c, v = .slice a (spL d s).length c ∧ H = [.own (strT (spL d s)) (.slice a (spL d s).length c)]) := by
  subst hd
  refine fn_enter Tryz.func307 rfl Tryz.ntmps307 rfl ?_
  repeat' (first | (show oL; first | refine sAs rfl rfl ?_ | (show oA (.buildSlice _ _ _); refine m_build0 tabs rfl rfl (fun g hg => ?_))) | refine xNt ?_ | (show oC; first | refine c_seq ?_ | refine c_region ?_ | refine c_block ?_))
  refine c_loopH (α := Nat × Option Addr × Nat) [0, 1] (fun x => [(5, .slice x.2.1 (spR d (s.take x.1)).1.length x.2.2), (6, sV (spR d (s.take x.1)).2), (7, iV x.1)]) (fun x => x.1 ≤ s.length) (fun x => [.own (strT (spR d (s.take x.1)).1) (.slice x.2.1 (spR d (s.take x.1)).1.length x.2.2)]) (fun x => s.length - x.1) (0, some ⟨g, 0, none⟩, 0) rfl sB ?_ ?_ ?_
  · exact Nat.zero_le _
  · exact fun w' c' => c'
  · rintro ⟨i, a, c⟩ hi
    simp only at hi ⊢
    have hlen := spR_len (d := d) (s := s) i hi
    by_cases hin : i < s.length
    · have en := spR_next (d := d) hin
      have hget : (i : Int).toNat = i := Int.toNat_natCast i
      have hsl : (s.drop i).take (i + 1 - i) = [s.getD i 0] := by
        rw [Nat.add_sub_cancel_left, List.drop_eq_getElem_cons hin, List.take_succ_cons, List.take_zero, List.getD, List.getElem?_eq_getElem hin]
        rfl
      by_cases hx : s.getD i 0 = d
      · rw [if_pos hx] at en
        have e1 := congrArg Prod.fst en
        have e2 := congrArg Prod.snd en
        simp only at e1 e2
        have hb : ((s.getD ((i : Int).toNat) 0).toNat : Int) = (d.toNat : Int) := by rw [hget, hx]
        repeat' (first | (show oL; first | refine sMv rfl rfl ?_ | refine sAs rfl rfl ?_ | (show oA (.binOp _ _ _ _ _); first | refine st_y (y_eqlk rfl rfl) rfl ?_ | refine sAd rfl rfl om rfl ?_ | refine sLs rfl rfl rfl ?_) | (show oA (.call _); first | refine st_y (y_lens Tryz.underlying9 rfl) rfl ?_ | refine m_pushc 0 tabs rfl rfl rfl rfl rfl rfl (by rw [List.length_map]; omega) rfl rfl (fun a9 c9 => ?_)) | (show oA (.buildSlice _ _ _); refine m_build1 tabs (us := [sV (spR d (s.take i)).2]) rfl rfl rfl rfl (by decide) rfl (fun g5 hg5 => ?_)) | (show oA (.index _ _ _); refine st_y (y_indexs Tryz.underlying9 rfl rfl om om) rfl ?_)) | (show oN; first | refine c_nil (x_then ?_) | refine c_nil ?_) | (show oC; first | refine c_seq ?_ | refine c_region ?_ | refine c_skip (x_then ?_) | refine c_block ?_ | refine c_ift rfl aO ?_) | (show AT _ _ _ _; first | refine x_then ?_ | refine x_blk ?_))
        exact x_nx (i + 1, a9, c9) (by simp only [e1, e2, List.length_append, List.length_singleton, List.length_map]; repeat' (first | exact Sub.nil | refine Sub.cons rfl ?_ | refine Sub.consi rfl om ?_)) (by simp only; omega) (fun w' c' => by rw [e1, str_snoc, List.length_append]; rw [List.length_map] at c'; exact c') (by simp only; omega)
      · rw [if_neg hx] at en
        have e1 := congrArg Prod.fst en
        have e2 := congrArg Prod.snd en
        simp only at e1 e2
        have hb : ¬ ((s.getD ((i : Int).toNat) 0).toNat : Int) = (d.toNat : Int) := by
          rw [hget]
          intro e
          exact hx (UInt8.toNat_inj.1 om)
        repeat' (first | (show oL; first | refine sMv rfl rfl ?_ | refine sAs rfl rfl ?_ | (show oA (.binOp _ _ _ _ _); first | refine st_y (y_eqlk rfl rfl) rfl ?_ | refine st_y (y_cat rfl rfl om (by rw [hsl]; simp)) rfl ?_ | refine sAd rfl rfl om rfl ?_ | refine sLs rfl rfl rfl ?_) | (show oA (.call _); refine st_y (y_lens Tryz.underlying9 rfl) rfl ?_) | (show oA (.slice _ _ _ _ _); refine st_y (y_sls Tryz.underlying9 rfl rfl rfl rfl (show ((i : Int) + 1) = ((i + 1 : Nat) : Int) by omega) om om) rfl ?_) | (show oA (.index _ _ _); refine st_y (y_indexs Tryz.underlying9 rfl rfl om om) rfl ?_)) | (show oN; first | refine c_nil (x_then ?_) | refine c_nil ?_) | (show oC; first | refine c_seq ?_ | refine c_region ?_ | refine c_skip (x_then ?_) | refine c_block ?_ | refine c_ift rfl aO ?_ | refine c_iff rfl nN ?_) | (show AT _ _ _ _; first | refine x_then ?_ | refine x_blk ?_))
        rw [hsl]
        exact x_nx (i + 1, a, c) (by simp only [e1, e2]; repeat' (first | exact Sub.nil | refine Sub.cons rfl ?_ | refine Sub.consi rfl om ?_)) (by simp only; omega) (fun w' c' => by simp only [e1] at c' ⊢; exact c') (by simp only; omega)
    · have : i = s.length := by omega
      subst this
      repeat' (first | (show oL; first | refine sMv rfl rfl ?_ | refine sAs rfl rfl ?_ | refine sLs rfl rfl rfl ?_ | (show oA (.call _); first | refine st_y (y_lens Tryz.underlying9 rfl) rfl ?_ | refine m_pushc 0 tabs rfl rfl rfl rfl rfl rfl (by rw [List.length_map]; omega) rfl rfl (fun a9 c9 => ?_)) | (show oA (.buildSlice _ _ _); refine m_build1 tabs (us := [sV (spR d (s.take s.length)).2]) rfl rfl rfl rfl (by decide) rfl (fun g5 hg5 => ?_))) | refine xNt ?_ | (show oC; first | refine c_seq ?_ | refine c_region ?_ | refine c_ret ?_ | refine c_exit ?_ | refine c_iff rfl nN ?_) | (show AT _ _ _ _; first | refine x_then ?_ | refine x_then_exit ?_ | refine x_blk_exit rfl ?_))
      rw [List.take_length]
      have ec : (spL d s).length = (spR d s).1.length + 1 := by rw [spL, List.length_append]; rfl
      exact x_ret1 Tryz.results307 (res_tmp rfl) (fun w' c' => ⟨_, _, rfl, ⟨a9, c9, by rw [ec, List.length_map], rfl⟩, by
        rw [ec]
        rw [spL, str_snoc]
        rw [List.length_map] at c'
        exact c'⟩)
theorem spec_FormatQuiver_ok {w : World} {q : Qv} {u0 u1 : Value} (h0 : Rd w (iT q.2.1) u0) (h1 : Rd w (iT q.2.2) u1) : Does Tryz.prog 308 [.agg #[iV q.1, u0, u1]] w (fun v H => v = sV (fmtQ q) ∧ H = []) := by
  obtain ⟨V, F, T⟩ := q
  simp only at h0 h1 ⊢
  by_cases hQ : QuivP (V, F, T)
  · have hr := quiv_rng hQ
    have hV := hQ.1
    have h6 := hQ.2.1
    have hT := hQ.2.2.1
    simp only at hr hV h6 hT
    rw [fmtQ, if_pos hQ]
    obtain ⟨a0, c0, rfl, hs0, _, _, hg0⟩ := h0.ints
    obtain ⟨a1, c1, rfl, hs1, _, _, hg1⟩ := h1.ints
    have hQ1 := not_not_intro hQ
    refine fn_enter Tryz.func308 rfl Tryz.ntmps308 rfl ?_
    repeat' (first | (show oL; first | refine sAs rfl rfl ?_ | refine sFd tabs rfl rfl rfl rfl ?_ | (show oA (.load _ _); first | refine sLd 0 tabs rfl rfl rfl rfl rfl ?_ | refine sLb 0 tabs rfl rfl rfl rfl rfl ?_) | (show oA (.binOp _ _ _ _ _); refine st_y (y_cat rfl rfl (by simp) (by simp)) rfl ?_) | (show oA (.unOp _ _ _); refine st_y (y_notd rfl) rfl ?_) | (show oA (.call _); first | (refine m_call (ent_of Tryz.func264 kr rfl) rfl rfl (fun w c => spec_IsQuiver_ok (q := (V, F, T)) (c.rd h0) (c.rd h1)) ?_; rintro v H' ⟨rfl, rfl⟩) | (refine m_call (ent_of Tryz.func315 kr rfl) rfl rfl (fun w c => spec_FormatInt_ok (n := V) om om) ?_; rintro v H' ⟨rfl, rfl⟩)) | (show oA (.box _ _); refine m_box rfl rfl (fun b hb => ?_))) | refine xNt ?_ | (show oC; first | refine c_seq ?_ | refine c_region ?_ | refine c_skip (x_then ?_) | refine c_block ?_ | refine c_iff rfl nN ?_))
    all_goals first | exact absurd hQ aS | skip
    refine c_loopH (α := Nat) [1] (fun i => [(3, sV (fmA (V, F, T) i)), (4, iV i)]) (fun i => i ≤ F.length) (fun i => [.blk b #[iV V, .slice a0 F.length c0, .slice a1 T.length c1] 57]) (fun i => F.length - i) 0 rfl sB ?_ ?_ ?_
    · exact Nat.zero_le _
    · exact fun w' c' => c'
    · intro i hi
      have hfl := fmA_len (q := (V, F, T)) i
      by_cases hin : i < F.length
      · have hi0 := hr.1 i hin
        have hi1 := hr.2 i hin
        have en : fmA (V, F, T) (i + 1) = fmA (V, F, T) i ++ [32] ++ [dg (F.getD i 0)] ++ [dg (T.getD i 0)] := by
          rw [fmA, prtQ]; simp
        repeat' (first | (show oL; first | refine sMv rfl rfl ?_ | refine sAs rfl rfl ?_ | refine sFd tabs rfl rfl rfl rfl ?_ | refine sLd 0 tabs rfl rfl rfl rfl rfl ?_ | (show oA (.binOp _ _ _ _ _); first | refine sAd rfl rfl om rfl ?_ | refine sLs rfl rfl rfl ?_) | refine sLn tabs rfl rfl rfl ?_) | refine xNt ?_ | (show oC; first | refine c_seq ?_ | refine c_region ?_ | refine c_skip (x_then ?_) | refine c_block ?_ | refine c_draw kr kr (fun _ c => Hp.drew c) ?_ | refine c_ift rfl aO ?_) | (show QT _ _ _ _ _ _ (_ :: _); first | refine qMv rfl rfl ?_ | refine qAs rfl rfl ?_ | refine qFd tabs rfl rfl rfl rfl ?_ | (show qA (.load _ _); first | refine qLd 0 tabs rfl rfl rfl rfl rfl ?_ | refine q_y (y_load tabs rfl rfl (hc_w0 (hg0 i hin))) rfl ?_ | refine q_y (y_load tabs rfl rfl (hc_w0 (hg1 i om))) rfl ?_) | (show qA (.indexAddr _ _ _); first | refine q_y (y_ix1 tabs (j := i) rfl rfl rfl hs0 rfl hin) rfl ?_ | refine q_y (y_ix1 tabs (j := i) rfl rfl rfl hs1 rfl om) rfl ?_) | (show qA (.binOp _ _ _ _ _); first | refine q_y (y_cat rfl rfl (by simp only [List.length_append, List.length_singleton]; omega) (by simp)) rfl ?_ | refine q_y (y_cat rfl rfl om (by simp)) rfl ?_) | (show qA (.call _); first | refine q_call (ent_of Tryz.func315 kr rfl) rfl rfl (fun w c => spec_FormatInt_ok (n := F.getD i 0) om om) (fun u H' h => h.1) ?_ | refine q_call (ent_of Tryz.func315 kr rfl) rfl rfl (fun w c => spec_FormatInt_ok (n := T.getD i 0) om om) (fun u H' h => h.1) ?_)) | (show QT _ _ _ _ _ _ []; refine q_nil ?_) | (show AT _ _ _ _; first | refine x_then ?_ | refine x_blk ?_))
        rw [← en]
        exact x_nx (i + 1) sB om (fun w' c' => c') om
      · have : i = F.length := by omega
        subst this
        repeat' (first | (show oL; first | refine sMv rfl rfl ?_ | refine sAs rfl rfl ?_ | refine sFd tabs rfl rfl rfl rfl ?_ | refine sLd 0 tabs rfl rfl rfl rfl rfl ?_ | refine sLs rfl rfl rfl ?_ | refine sLn tabs rfl rfl rfl ?_) | refine xNt ?_ | (show oC; first | refine c_seq ?_ | refine c_region ?_ | refine c_ret ?_ | refine c_exit ?_ | refine c_iff rfl nN ?_) | (show AT _ _ _ _; first | refine x_then ?_ | refine x_then_exit ?_ | refine x_blk_exit rfl ?_))
        exact x_ret1 Tryz.results308 (res_tmp rfl) (fun w' c' => ⟨_, _, rfl, ⟨rfl, rfl⟩, c'.sub (List.nil_sublist _)⟩)
  · have e0 : fmtQ (V, F, T) = [] := by rw [fmtQ, if_neg hQ]
    rw [e0]
    refine fn_enter Tryz.func308 rfl Tryz.ntmps308 rfl ?_
    repeat' (first | (show oL; first | refine sAs rfl rfl ?_ | refine sLb 0 tabs rfl rfl rfl rfl rfl ?_ | (show oA (.unOp _ _ _); refine st_y (y_notd rfl) rfl ?_) | (show oA (.call _); (refine m_call (ent_of Tryz.func264 kr rfl) rfl rfl (fun w c => spec_IsQuiver_ok (q := (V, F, T)) (c.rd h0) (c.rd h1)) ?_; rintro v H' ⟨rfl, rfl⟩)) | (show oA (.box _ _); refine m_box rfl rfl (fun b hb => ?_))) | refine xNt ?_ | (show oC; first | refine c_seq ?_ | refine c_region ?_ | refine c_ret ?_ | refine c_ift rfl aO ?_) | (show AT _ _ _ _; refine x_then_ret ?_))
    all_goals first | exact absurd aS hQ | skip
    exact x_ret1 Tryz.results308 (res_tmp rfl) (fun w' c' => ⟨_, _, rfl, ⟨rfl, rfl⟩, c'.sub (List.nil_sublist _)⟩)
def GivesQn (q : Qv) (b : Bool) (r : Value) (H : List HE) : Prop := ∃ a c a' c', r = .tuple #[.agg #[iV q.1, .slice a q.2.1.length c, .slice a' q.2.2.length c'], .bool b] ∧ H = [.own (iT q.2.2) (.slice a' q.2.2.length c'), .own (iT q.2.1) (.slice a q.2.1.length c)]
theorem bld_qn (r : Int) (a a' : Option Addr) (m c m' c' : Nat) (w : World) : (Instr.build 57 #[(0, iV r), (1, .slice a m c), (2, .slice a' m' c')]).run Tryz.prog w = .ok (.agg #[iV r, .slice a m c, .slice a' m' c']) w := by kernel_rfl
theorem bld_q0 (w : World) : (Instr.build 57 #[]).run Tryz.prog w = .ok (.agg #[iV 0, .slice none 0 0, .slice none 0 0]) w := by kernel_rfl
theorem str_sl (i : Nat) {M : List Nat} {w0 : World} {H : List HE} {l : List (List UInt8)} {a : Option Addr} {m c : Nat} (hi : H[i]? = some (.own (strT l) (.slice a m c))) : ∀ w, Hp M w0 H w → SA a l.length ∧ m = l.length := fun w cw => by
  obtain ⟨a', m', cap, h1, h2, _, _, h5, _⟩ := Rd.open (by decide) (cw.own_rd hi)
  cases h1
  have hm : l.length = m := by simpa using h5
  subst hm
  exact ⟨h2, rfl⟩
theorem byte_i64 (b : UInt8) : IntKind.i64.wrap (b.toNat : Int) = (b.toNat : Int) := by
  have := b.toNat_lt
  rw [IntKind.wrap_i64]; omega
def gA (o : Nat) (ws : List (List UInt8)) (k : Nat) : List Int := (List.range k).map (fun j => (((ws.getD (j + 1) []).getD o 0).toNat : Int) - 48)
theorem gA_len {o : Nat} {ws : List (List UInt8)} {k : Nat} : (gA o ws k).length = k := by simp [gA]
theorem gA_next {o : Nat} {ws : List (List UInt8)} {k : Nat} : gA o ws (k + 1) = gA o ws k ++ [(((ws.getD (k + 1) []).getD o 0).toNat : Int) - 48] := by simp [gA, List.range_succ]
def wsQ (ws : List (List UInt8)) (k : Nat) : Qv := ((((ws.getD 0 []).getD 0 0).toNat : Int) - 48, gA 0 ws k, gA 1 ws k)
theorem cut_pos (d : UInt8) (s : List UInt8) : 0 < (spL d s).length := by rw [spL, List.length_append]; simp
theorem par_ws {s : List UInt8} (h : parP s) : s.length ≤ 20 ∧ ((spL 32 s).getD 0 []).length = 2 ∧ (∀ j, j + 1 < (spL 32 s).length → ((spL 32 s).getD (j + 1) []).length = 2) ∧ wsQ (spL 32 s) ((spL 32 s).length - 1) = candQ s := by
  obtain ⟨q, hq, rfl⟩ := par_iff.1 h
  have hr := quiv_rng hq
  have hV := hq.1
  have hT := hq.2.2.1
  rw [cand_fmt hq, cut_fmtQ hq, preQ_len]
  have hg : ∀ k, k < q.2.1.length + 1 → (preQ q (q.2.1.length + 1)).getD k [] = prtQ q k := fun k hk => by rw [List.getD, preQ_get hk]; rfl
  refine ⟨fmtQ_len q, by rw [hg 0 om]; rfl, fun j hj => by rw [hg (j + 1) hj]; rfl, ?_⟩
  rw [wsQ, hg 0 om, Nat.add_sub_cancel]
  have e0 : (((prtQ q 0).getD 0 0).toNat : Int) - 48 = q.1 := (dg_ne (x := q.1) om om).2.2
  have e1 : gA 0 (preQ q (q.2.1.length + 1)) q.2.1.length = q.2.1 := by
    refine Eq.trans ?_ (list_range (l := q.2.1) rfl)
    rw [gA]
    refine List.map_congr_left (fun i hi => ?_)
    have hi' := List.mem_range.1 hi
    rw [hg (i + 1) om]
    exact (dg_ne (hr.1 i hi').1 (by have := hr.1 i hi'; omega)).2.2
  have e2 : gA 1 (preQ q (q.2.1.length + 1)) q.2.1.length = q.2.2 := by
    refine Eq.trans ?_ (list_range (l := q.2.2) hT)
    rw [gA]
    refine List.map_congr_left (fun i hi => ?_)
    have hi' := List.mem_range.1 hi
    rw [hg (i + 1) om]
    exact (dg_ne (hr.2 i hi').1 (by have := hr.2 i hi'; omega)).2.2
  rw [e0, e1, e2]
theorem spec_ParseQuiver_ok {w : World} {s : List UInt8} (hl : s.length ≤ 1000000) : Does Tryz.prog 290 [sV s] w (GivesQn (parQ s) (decide (parP s))) := by
  have hpos := cut_pos 32 s
  have hlw : (spL 32 s).length ≤ s.length + 1 := by
    have := spR_len (d := 32) (s := s) s.length (Nat.le_refl _)
    rw [List.take_length] at this
    rw [spL, List.length_append, List.length_singleton]; omega
  have hpw := par_ws (s := s)
  have hg : ∀ j, j < (spL 32 s).length → ((spL 32 s).map sV)[j]? = some (sV ((spL 32 s).getD j [])) := fun j hj => by
    rw [List.getElem?_map, List.getD, List.getElem?_eq_getElem hj]; rfl
  refine fn_enter Tryz.func290 rfl Tryz.ntmps290 rfl ?_
  repeat' (first | (show oL; first | refine sMv rfl rfl ?_ | refine sAs rfl rfl ?_ | (show oA (.call _); (refine m_call (ent_of Tryz.func307 kr rfl) rfl rfl (fun w c => l6Cut_ok (d := 32) rfl hl) ?_; rintro v H' ⟨a, c, rfl, rfl⟩)) | (show oA (.alloc _); refine m_alloc tabs rfl rfl (fun b2 hb2 => ?_))) | refine xNt ?_ | (show oC; first | refine c_seq ?_ | refine c_region ?_))
  refine AT.fact (str_sl 0 rfl) (fun hsl => ?_)
  have hs := hsl.1
  repeat' (first | (show oL; first | refine sMv rfl rfl ?_ | refine sAs rfl rfl ?_ | (show oA (.load _ _); refine st_y (y_load tabs rfl rfl (hc_nm 0 rfl (hg 0 hpos))) rfl ?_) | (show oA (.indexAddr _ _ _); refine st_y (y_ix1 tabs (j := 0) rfl rfl rfl hs rfl hpos) rfl ?_) | (show oA (.binOp _ _ _ _ _); first | refine st_y (y_sub rfl rfl (by have := (((spL 32 s).getD 0 []).getD ((0 : Int).toNat) 0).toNat_lt; omega)) rfl ?_ | refine st_y (y_gtr rfl rfl) rfl ?_ | refine st_y (y_neq rfl rfl) rfl ?_) | (show oA (.call _); refine st_y (y_lens Tryz.underlying9 rfl) rfl ?_) | (show oA (.pick _ _ _); first | refine st_y (y_pickt rfl aO rfl) rfl ?_ | refine st_y (y_pickf rfl aO rfl) rfl ?_) | (show oA (.store _ _ _); first | refine m_storeb 1 tabs rfl rfl rfl rfl rfl rfl rfl ?_ | refine m_storeb 0 tabs rfl rfl rfl rfl rfl rfl rfl ?_) | (show oA (.alloc _); refine m_alloc tabs rfl rfl (fun bq hbq => ?_)) | (show oA (.buildSlice _ _ _); refine m_build0 tabs rfl rfl (fun g hg0 => ?_)) | (show oA (.build _ _); first | refine st_y (y_bld0 bld_q0) rfl ?_ | refine st_y (y_bld3 (bld_qn _ _ _ _ _ _ _) rfl rfl rfl) rfl ?_) | (show oA (.convert _ _ _); refine st_y (y_convk (t := 5) (t' := 3) (k := .u8) (k' := .i64) kr kr kr rfl (byte_i64 _)) rfl ?_) | (show oA (.index _ _ _); refine st_y (y_indexs Tryz.underlying9 rfl rfl om om) rfl ?_) | refine st_gfy rfl rfl aO ?_ | refine st_gfn rfl rfl aO rfl ?_ | refine st_gd rfl rfl (fun h => ?_) (fun h => ?_)) | refine xNt ?_ | (show oC; first | refine c_seq ?_ | refine c_region ?_ | refine c_skip (x_then ?_) | refine c_block ?_ | refine c_ret ?_ | refine c_true rfl ?_ | refine c_if rfl (fun h => ?_) (fun h => ?_)) | (show AT _ _ _ _; refine x_then_ret ?_))
  · have hn : ¬ parP s := fun h => by have := hpw h; omega
    rw [parQ, if_neg hn, decide_eq_false hn]
    exact x_ret2 Tryz.results290 (res_cellb 1 tabs rfl rfl rfl rfl) (res_tmp rfl) (fun w' c' => ⟨_, _, rfl, ⟨none, 0, none, 0, rfl, rfl⟩, Hp.nilp _ _ (Hp.nilp _ _ (c'.sub (List.nil_sublist _)))⟩)
  · have hn : ¬ parP s := fun h => by have := hpw h; omega
    rw [parQ, if_neg hn, decide_eq_false hn]
    exact x_ret2 Tryz.results290 (res_cellb 1 tabs rfl rfl rfl rfl) (res_tmp rfl) (fun w' c' => ⟨_, _, rfl, ⟨none, 0, none, 0, rfl, rfl⟩, Hp.nilp _ _ (Hp.nilp _ _ (c'.sub (List.nil_sublist _)))⟩)
  · rename_i g1 hg1
    refine c_loopH (α := Nat × Option Addr × Nat × Option Addr × Nat) [0, 2, 4, 5] (fun x => [(6, iV (x.1 + 1))]) (fun x => x.1 + 1 ≤ (spL 32 s).length ∧ ∀ j, j < x.1 → ((spL 32 s).getD (j + 1) []).length = 2) (fun x => [.blk bq #[iV ((((spL 32 s).getD 0 []).getD ((0 : Int).toNat) 0).toNat - 48), .slice x.2.1 x.1 x.2.2.1, .slice x.2.2.2.1 x.1 x.2.2.2.2] 57, .own (iT (gA 1 (spL 32 s) x.1)) (.slice x.2.2.2.1 x.1 x.2.2.2.2), .own (iT (gA 0 (spL 32 s) x.1)) (.slice x.2.1 x.1 x.2.2.1), .own (strT (spL 32 s)) (.slice a (spL 32 s).length c), .blk b2 #[iV 0, .slice none 0 0, .slice none 0 0] 57]) (fun x => (spL 32 s).length - x.1) (0, some ⟨g1, 0, none⟩, 0, some ⟨g, 0, none⟩, 0) rfl sB ?_ ?_ ?_
    · exact ⟨by simp only; omega, fun j hj => by simp only at hj; omega⟩
    · exact fun w' c' => c'
    · rintro ⟨k, aF, cF, aT, cT⟩ ⟨hk, h2⟩
      simp only at hk h2 ⊢
      by_cases hin : k + 1 < (spL 32 s).length
      · have hlF : (gA 0 (spL 32 s) k).length = k := gA_len
        have hlT : (gA 1 (spL 32 s) k).length = k := gA_len
        by_cases hp : ((spL 32 s).getD (k + 1) []).length = 2
        · have hp' : ((((spL 32 s).getD (k + 1) []).length : Nat) : Int) = 2 := by omega
          repeat' (first | (show oL; first | refine sMv rfl rfl ?_ | (show oA (.load _ _); refine st_y (y_load tabs rfl rfl (hc_nm 3 rfl (hg (k + 1) hin))) rfl ?_) | (show oA (.indexAddr _ _ _); refine st_y (y_ix1 tabs (j := k + 1) rfl rfl rfl hs om hin) rfl ?_) | (show oA (.binOp _ _ _ _ _); first | refine sLs rfl rfl rfl ?_ | refine st_y (y_neq rfl rfl) rfl ?_) | (show oA (.call _); first | refine st_y (y_lens Tryz.underlying9 rfl) rfl ?_ | refine sLn tabs rfl rfl rfl ?_)) | refine xNt ?_ | (show oC; first | refine c_seq ?_ | refine c_region ?_ | refine c_skip (x_then ?_) | refine c_block ?_ | refine c_ift rfl aO ?_ | refine c_iff rfl nN ?_))
          refine c_mixR (Hp [] w [.blk bq #[iV ((((spL 32 s).getD 0 []).getD ((0 : Int).toNat) 0).toNat - 48), .slice aF k cF, .slice aT k cT] 57, .own (strT (spL 32 s)) (.slice a (spL 32 s).length c)]) 11 kr kr kr kr kr (fun _ c => Hp.drew c) ?_
          refine h_take 0 rfl kr kr kr (by exact y_field tabs rfl rfl rfl) rfl sS ?_
          refine h_take 1 rfl kr kr kr (by exact y_load tabs rfl rfl (hc_blk 0 rfl rfl)) rfl sS ?_
          refine h_take 2 rfl kr kr kr (by exact y_move rfl) rfl sS ?_
          refine h_take 3 rfl kr kr kr (by exact y_move rfl) rfl sS ?_
          refine h_take 4 rfl kr kr kr (by exact y_ix1 tabs (j := k + 1) rfl rfl rfl hs om hin) rfl sS ?_
          refine h_take 5 rfl kr kr kr (by exact y_load tabs rfl rfl (hc_nm 1 rfl (hg (k + 1) hin))) rfl sS ?_
          refine h_take 6 rfl kr kr kr (by exact y_indexs Tryz.underlying9 rfl rfl om om) rfl sS ?_
          refine h_take 7 rfl kr kr kr (by exact y_convk (t := 5) (t' := 3) (k := .u8) (k' := .i64) kr kr kr rfl (byte_i64 _)) rfl sS ?_
          refine h_take 8 rfl kr kr kr (by exact y_sub rfl rfl (by have := (((spL 32 s).getD (k + 1) []).getD ((0 : Int).toNat) 0).toNat_lt; omega)) rfl sS ?_
          refine h_only 9 rfl kr ?_
          first | (refine m_build1 tabs (us := [iV ((((spL 32 s).getD (k + 1) []).getD ((0 : Int).toNat) 0).toNat - 48)]) rfl rfl rfl rfl (by decide) rfl (fun g5 hg5 => ?_)) | (refine m_pushi 2 tabs rfl rfl rfl rfl rfl om (fun a7 c7 => ?_))
          refine c_nil (x_one (h_keep sS ?_))
          refine h_only 10 rfl kr ?_
          first | (refine m_build1 tabs (us := [iV ((((spL 32 s).getD (k + 1) []).getD ((0 : Int).toNat) 0).toNat - 48)]) rfl rfl rfl rfl (by decide) rfl (fun g5 hg5 => ?_)) | (refine m_pushi 2 tabs rfl rfl rfl rfl rfl om (fun a7 c7 => ?_))
          refine c_nil (x_one (h_keep sS ?_))
          refine h_end kr ?_
          repeat' (first | (show oL; first | refine sFd tabs rfl rfl rfl rfl ?_ | (show oA (.store _ _ _); refine m_storef 1 tabs rfl rfl rfl rfl rfl rfl ?_)) | refine xNt ?_)
          rw [hlF]
          refine c_mixR (Hp [] w [.blk bq #[iV ((((spL 32 s).getD 0 []).getD ((0 : Int).toNat) 0).toNat - 48), .slice a7 (k + 1) c7, .slice aT k cT] 57, .own (strT (spL 32 s)) (.slice a (spL 32 s).length c)]) 11 kr kr kr kr kr (fun _ c => Hp.drew c) ?_
          refine h_take 0 rfl kr kr kr (by exact y_field tabs rfl rfl rfl) rfl sS ?_
          refine h_take 1 rfl kr kr kr (by exact y_load tabs rfl rfl (hc_blk 0 rfl rfl)) rfl sS ?_
          refine h_take 2 rfl kr kr kr (by exact y_move rfl) rfl sS ?_
          refine h_take 3 rfl kr kr kr (by exact y_move rfl) rfl sS ?_
          refine h_take 4 rfl kr kr kr (by exact y_ix1 tabs (j := k + 1) rfl rfl rfl hs om hin) rfl sS ?_
          refine h_take 5 rfl kr kr kr (by exact y_load tabs rfl rfl (hc_nm 1 rfl (hg (k + 1) hin))) rfl sS ?_
          refine h_take 6 rfl kr kr kr (by exact y_indexs Tryz.underlying9 rfl rfl om om) rfl sS ?_
          refine h_take 7 rfl kr kr kr (by exact y_convk (t := 5) (t' := 3) (k := .u8) (k' := .i64) kr kr kr rfl (byte_i64 _)) rfl sS ?_
          refine h_take 8 rfl kr kr kr (by exact y_sub rfl rfl (by have := (((spL 32 s).getD (k + 1) []).getD ((1 : Int).toNat) 0).toNat_lt; omega)) rfl sS ?_
          refine h_only 9 rfl kr ?_
          first | (refine m_build1 tabs (us := [iV ((((spL 32 s).getD (k + 1) []).getD ((1 : Int).toNat) 0).toNat - 48)]) rfl rfl rfl rfl (by decide) rfl (fun g5 hg5 => ?_)) | (refine m_pushi 2 tabs rfl rfl rfl rfl rfl om (fun a8 c8 => ?_))
          refine c_nil (x_one (h_keep sS ?_))
          refine h_only 10 rfl kr ?_
          first | (refine m_build1 tabs (us := [iV ((((spL 32 s).getD (k + 1) []).getD ((1 : Int).toNat) 0).toNat - 48)]) rfl rfl rfl rfl (by decide) rfl (fun g5 hg5 => ?_)) | (refine m_pushi 2 tabs rfl rfl rfl rfl rfl om (fun a8 c8 => ?_))
          refine c_nil (x_one (h_keep sS ?_))
          refine h_end kr ?_
          repeat' (first | (show oL; first | refine sMv rfl rfl ?_ | refine sAs rfl rfl ?_ | refine sFd tabs rfl rfl rfl rfl ?_ | refine sAd rfl rfl om rfl ?_ | (show oA (.store _ _ _); refine m_storef 2 tabs rfl rfl rfl rfl rfl rfl ?_)) | (show oN; first | refine c_nil (x_then ?_) | refine c_nil ?_) | (show oC; refine c_region ?_) | (show AT _ _ _ _; first | refine x_then ?_ | refine x_blk ?_))
          rw [hlT]
          exact x_nx (k + 1, a7, c7, a8, c8) sB ⟨by simp only; omega, fun j hj => by
            simp only at hj
            by_cases hjk : j < k
            · exact h2 j hjk
            · have : j = k := by omega
              subst this; exact hp⟩ (fun w' c' => by
            simp only [gA_next]
            exact c'.front (i := 2) rfl) (by simp only; omega)
        · skip
          repeat' (first | (show oL; first | refine sMv rfl rfl ?_ | refine sAs rfl rfl ?_ | (show oA (.load _ _); refine st_y (y_load tabs rfl rfl (hc_nm 3 rfl (hg (k + 1) hin))) rfl ?_) | (show oA (.indexAddr _ _ _); refine st_y (y_ix1 tabs (j := k + 1) rfl rfl rfl hs om hin) rfl ?_) | (show oA (.binOp _ _ _ _ _); first | refine sLs rfl rfl rfl ?_ | refine st_y (y_neq rfl rfl) rfl ?_) | (show oA (.call _); first | refine st_y (y_lens Tryz.underlying9 rfl) rfl ?_ | refine sLn tabs rfl rfl rfl ?_) | (show oA (.store _ _ _); refine m_storeb 4 tabs rfl rfl rfl rfl rfl rfl rfl ?_) | (show oA (.build _ _); refine st_y (y_bld0 bld_q0) rfl ?_)) | refine xNt ?_ | (show oC; first | refine c_seq ?_ | refine c_region ?_ | refine c_skip (x_then ?_) | refine c_block ?_ | refine c_ret ?_ | refine c_ift rfl aO ?_) | (show AT _ _ _ _; first | refine x_then_ret ?_ | refine x_blk_ret ?_))
          have hn : ¬ parP s := fun h => by
            have h1 := (hpw h).2.2.1 k om
            omega
          rw [parQ, if_neg hn, decide_eq_false hn]
          exact x_ret2 Tryz.results290 (res_cellb 4 tabs rfl rfl rfl rfl) (res_tmp rfl) (fun w' c' => ⟨_, _, rfl, ⟨none, 0, none, 0, rfl, rfl⟩, Hp.nilp _ _ (Hp.nilp _ _ (c'.sub (List.nil_sublist _)))⟩)
      · skip
        have hk1 : k + 1 = (spL 32 s).length := by omega
        repeat' (first | (show oL; first | refine sMv rfl rfl ?_ | refine sAs rfl rfl ?_ | refine sLb 0 tabs rfl rfl rfl rfl rfl ?_ | (show oA (.binOp _ _ _ _ _); first | refine st_y (y_neqs rfl rfl) rfl ?_ | refine sLs rfl rfl rfl ?_) | (show oA (.call _); first | (refine m_call (ent_of Tryz.func308 kr rfl) rfl rfl (fun w c => spec_FormatQuiver_ok (q := wsQ (spL 32 s) k) (by have := c.own_rd (i := 2) rfl; exact this) (by have := c.own_rd (i := 1) rfl; exact this)) ?_; rintro v H' ⟨rfl, rfl⟩) | refine sLn tabs rfl rfl rfl ?_) | (show oA (.store _ _ _); refine m_storeb 4 tabs rfl rfl rfl rfl rfl rfl rfl ?_) | (show oA (.build _ _); refine st_y (y_bld0 bld_q0) rfl ?_)) | refine xNt ?_ | (show oC; first | refine c_seq ?_ | refine c_region ?_ | refine c_skip (x_then ?_) | refine c_ret ?_ | refine c_exit ?_ | refine c_iff rfl nN ?_ | refine c_ifnd rfl (fun h => ?_) (fun h => ?_)) | (show AT _ _ _ _; first | refine x_then ?_ | refine x_then_ret ?_ | refine x_then_exit ?_ | refine x_blk_exit rfl ?_))
        · have hn : ¬ parP s := fun hP => by
            have h1 := (hpw hP).2.2.2
            have h2 := hP.2
            rw [← hk1, Nat.add_sub_cancel] at h1
            rw [← h1] at h2
            exact h h2
          rw [parQ, if_neg hn, decide_eq_false hn]
          exact x_ret2 Tryz.results290 (res_cellb 4 tabs rfl rfl rfl rfl) (res_tmp rfl) (fun w' c' => ⟨_, _, rfl, ⟨none, 0, none, 0, rfl, rfl⟩, Hp.nilp _ _ (Hp.nilp _ _ (c'.sub (List.nil_sublist _)))⟩)
        · have he : fmtQ (wsQ (spL 32 s) k) = s := by first | exact Decidable.not_not.1 h | exact h
          have hQ : QuivP (wsQ (spL 32 s) k) := Decidable.by_contra (fun hq => by
            have e0 : s = [] := by rw [← he, fmtQ, if_neg hq]
            have e1 : ((spL 32 s).getD 0 []).length = 0 := by rw [e0]; rfl
            omega)
          have eQ : parQ s = wsQ (spL 32 s) k := by
            have := parQ_fmt hQ
            rwa [he] at this
          have l0 : (wsQ (spL 32 s) k).2.1.length = k := gA_len
          have l1 : (wsQ (spL 32 s) k).2.2.length = k := gA_len
          rw [eQ, decide_eq_true (par_iff.2 ⟨_, hQ, he⟩)]
          exact x_ret2 Tryz.results290 (res_cellb 4 tabs rfl rfl rfl rfl) (res_tmp rfl) (fun w' c' => ⟨_, _, rfl, ⟨aF, cF, aT, cT, by rw [l0, l1]; rfl, rfl⟩, by rw [l0, l1]; exact c'.sub (.cons _ (.cons_cons _ (.cons_cons _ (List.nil_sublist _))))⟩)
end Go.Proofs.YtijjkfbkihgfgaaGreat

namespace Go.Proofs.YtijjkfbkihgfgaaGreat
open Go.Lg Go.Proofs Go.RowKit
attribute [local irreducible] Code.wp wpList bodyPost Exit.then Exit.inBlock Hp Again Calls Y AT ResV QT Qn QI wpAny wpAnyQ
set_option maxRecDepth 20000
set_option maxHeartbeats 4000000

theorem l3Random_ok {w1 : World} {M1 : List Nat} {H1 : List HE} {w : World} {M' : List Nat} {u : Value} {b i : Nat} {h : Int} (p : Int) {R C : Nat} (hl : Lent M1 w1 (cu u b i h) H1 M' w) (hc : CodeF w1 M1 u) (hi : i ≤ vlen u) (hR : R ≤ 1000) (hC : C ≤ 1000) :
    DoesB Tryz.prog 239 [cuV b, iV p, iV R, iV C] w M' (Gcu u b (fun v H => ∃ (xs : List Int) (a : Option Addr) (c : Nat), v = .agg #[iV R, iV C, .slice a xs.length c] ∧ xs.length = R * C ∧ H = [.own (iT xs) (.slice a xs.length c)])) := by
  have hc2 := lent_code hl hc
  have hRC := rc_le (R := R) (C := C) om om
  refine fnb_lent Tryz.func239 rfl Tryz.ntmps239 rfl hl ?_
  repeat' (first | (show oL; first | refine sMv rfl rfl ?_ | refine sAs rfl rfl ?_ | (show oA (.call _); (refine m_call (ent_of Tryz.func172 kr rfl) rfl rfl (fun w c => l3Zero_ok (R := R) (C := C) om om) ?_; rintro v H' ⟨am, cm, rfl, hsm, rfl⟩)) | (show oA (.store _ _ _); refine m_storeb 0 tabs rfl rfl rfl rfl rfl rfl rfl ?_) | (show oA (.alloc _); refine m_alloc tabs rfl rfl (fun b9 hb9 => ?_))) | refine xNt ?_ | (show oC; first | refine c_seq ?_ | refine c_region ?_ | refine c_block ?_))
  rename_i b8 hb8
  refine c_loopH (α := List Int × Nat × Nat × Int) [0, 1, 8, 9] (fun s => [(10, iV s.2.1)]) (fun s => (s.1.length = R * C ∧ s.2.1 ≤ R * C) ∧ s.2.2.1 ≤ vlen u) (fun s => [.own (iT s.1) (.slice am (R * C) cm), cu u b s.2.2.1 s.2.2.2, .blk b9 #[iV R, iV C, .slice am (R * C) cm] 47, .blk b8 #[iV 0, iV 0, .slice none 0 0] 47]) (fun s => R * C - s.2.1) (mk R C (fun _ _ => 0), 0, i, h) rfl sB ?_ ?_ ?_
  · exact ⟨⟨by simp, Nat.zero_le _⟩, hi⟩
  · intro w' c'
    have h1 := (c'.front (i := 3) rfl).front (i := 2) rfl
    exact h1
  · rintro ⟨xs, k, i, ch⟩ ⟨⟨hx, hk⟩, hi⟩
    simp only at hx hk hi ⊢
    by_cases hin : k < R * C
    · repeat' (first | (show oL; first | refine sMv rfl rfl ?_ | refine sFd tabs rfl rfl rfl rfl ?_ | refine sLd 2 tabs rfl rfl rfl rfl rfl ?_ | refine sLs rfl rfl rfl ?_ | refine sLn tabs rfl rfl rfl ?_) | refine xNt ?_ | (show oC; first | refine c_seq ?_ | refine c_region ?_ | refine c_skip (x_then ?_) | refine c_block ?_ | refine c_ift rfl aO ?_))
      refine c_all (Hp M' w [.blk b9 #[iV R, iV C, .slice am (R * C) cm] 47]) kr (fun _ c => Hp.drew c) ?_
      refine h_take 0 rfl kr kr kr (by exact y_field tabs rfl rfl rfl) rfl sS ?_
      refine h_take 1 rfl kr kr kr (by exact y_load tabs rfl rfl (hc_blk 0 rfl rfl)) rfl sS ?_
      refine h_take 2 rfl kr kr kr (by exact y_move rfl) rfl sS ?_
      refine h_take 3 rfl kr kr kr (by exact y_move rfl) rfl sS ?_
      refine h_take 4 rfl kr kr kr (by exact y_move rfl) rfl sS ?_
      refine h_take 5 rfl kr kr kr (by exact y_min rfl rfl) rfl sS ?_
      refine h_take 6 rfl kr kr kr (by exact y_max rfl rfl) rfl sS ?_
      refine h_only 7 rfl kr ?_
      first | (refine m_callL 1 (ent_of Tryz.func120 kr rfl) rfl rfl rfl (fun w M' hl => l1Below_ok (max 1 (min 5 p)) hl hc2 hi) ?_; rintro v H' ⟨i, ch, _, hi, rfl, x, rfl, hx2, rfl⟩) | (refine m_storeo 1 (j := k) tabs rfl rfl rfl rfl om ?_)
      refine c_nil (x_one (h_keep sS ?_))
      refine h_take 8 rfl kr kr kr (by exact y_ix1 tabs (j := k) rfl rfl rfl hsm rfl hin) rfl sS ?_
      refine h_only 9 rfl kr ?_
      first | (refine m_callL 1 (ent_of Tryz.func120 kr rfl) rfl rfl rfl (fun w M' hl => l1Below_ok (max 1 (min 5 p)) hl hc2 hi) ?_; rintro v H' ⟨i, ch, _, hi, rfl, x, rfl, hx2, rfl⟩) | (refine m_storeo 1 (j := k) tabs rfl rfl rfl rfl om ?_)
      refine c_nil (x_one (h_keep sS ?_))
      refine h_end kr ?_
      repeat' (first | (show oL; first | refine sMv rfl rfl ?_ | refine sAs rfl rfl ?_ | refine sAd rfl rfl om rfl ?_) | refine xNt ?_ | (show oC; refine c_region ?_) | (show AT _ _ _ _; first | refine x_then ?_ | refine x_blk ?_))
      exact x_nx (xs.set k x, k + 1, i, ch) sB ⟨⟨by simp only [List.length_set]; omega, by simp only; omega⟩, hi⟩ (fun w' c' => c'.swap) (by simp only; omega)
    · have : k = R * C := by omega
      subst this
      repeat' (first | (show oL; first | refine sMv rfl rfl ?_ | refine sFd tabs rfl rfl rfl rfl ?_ | (show oA (.load _ _); first | refine sLd 2 tabs rfl rfl rfl rfl rfl ?_ | refine sLb 2 tabs rfl rfl rfl rfl rfl ?_) | refine sLs rfl rfl rfl ?_ | refine sLn tabs rfl rfl rfl ?_ | (show oA (.store _ _ _); refine m_storeb 3 tabs rfl rfl rfl rfl rfl rfl rfl ?_)) | refine xNt ?_ | (show oC; first | refine c_seq ?_ | refine c_region ?_ | refine c_ret ?_ | refine c_exit ?_ | refine c_iff rfl nN ?_) | (show AT _ _ _ _; first | refine x_then ?_ | refine x_then_exit ?_ | refine x_blk_exit rfl ?_))
      exact x_ret1 Tryz.results239 (res_cellb 3 tabs rfl rfl rfl rfl) (fun w' c' => ⟨_, _, rfl, ⟨i, ch, _, hi, rfl, xs, am, cm, by rw [hx], hx, rfl⟩, by rw [hx]; exact c'.swap.sub (.cons_cons _ (.cons_cons _ (List.nil_sublist _)))⟩)
abbrev GivesAny (v : Value) (H : List HE) : Prop := ∃ (m : Mat) (a : Option Addr) (c : Nat), v = .agg #[iV m.1, iV m.2.1, .slice a m.2.2.length c] ∧ (m.2.2.length ≤ 16 ∧ 0 ≤ m.2.1 ∧ m.2.1 ≤ 3) ∧ H = [.own (iT m.2.2) (.slice a m.2.2.length c)]
theorem l3Any_ok {w1 : World} {M1 : List Nat} {H1 : List HE} {w : World} {M' : List Nat} {u : Value} {b i : Nat} {h : Int} (p : Int) (hl : Lent M1 w1 (cu u b i h) H1 M' w) (hc : CodeF w1 M1 u) (hi : i ≤ vlen u) :
    DoesB Tryz.prog 131 [cuV b, iV p] w M' (Gcu u b GivesAny) := by
  have hc2 := lent_code hl hc
  refine fnb_lent Tryz.func131 rfl Tryz.ntmps131 rfl hl ?_
  have hRC : ∀ R C : Nat, R < 4 → C < 4 → R * C ≤ 9 := fun R C hR hC => Nat.mul_le_mul (show R ≤ 3 by omega) (show C ≤ 3 by omega)
  repeat' (first | (show oL; first | refine sMv rfl rfl ?_ | refine sAs rfl rfl ?_ | refine sFd tabs rfl rfl rfl rfl ?_ | (show oA (.load _ _); first | refine sLd 1 tabs rfl rfl rfl rfl rfl ?_ | refine sLb 1 tabs rfl rfl rfl rfl rfl ?_ | refine sLb 2 tabs rfl rfl rfl rfl rfl ?_) | (show oA (.binOp _ _ _ _ _); first | refine st_y (y_gtr rfl rfl) rfl ?_ | refine st_y (y_eql rfl rfl) rfl ?_) | (show oA (.call _); first | (refine m_callL 1 (ent_of Tryz.func120 kr rfl) rfl rfl rfl (fun w M' hl => l1BelowN_ok 4 (by decide) hl hc2 hi) ?_; rintro v H' ⟨i, ch, _, hi, rfl, R, rfl, hR, rfl⟩) | (refine m_callL 0 (ent_of Tryz.func120 kr rfl) rfl rfl rfl (fun w M' hl => l1BelowN_ok 4 (by decide) hl hc2 hi) ?_; rintro v H' ⟨i, ch, _, hi, rfl, C, rfl, hC, rfl⟩) | (refine m_callL 0 (ent_of Tryz.func239 kr rfl) rfl rfl rfl (fun w M' hl => l3Random_ok p (R := R) (C := C) hl hc2 hi om om) ?_; rintro v H' ⟨i, ch, _, hi, rfl, xs, a, c, rfl, hx, rfl⟩; have hxl := hRC R C hR hC; rw [← hx] at hxl) | (refine m_callL 1 (ent_of Tryz.func120 kr rfl) rfl rfl rfl (fun w M' hl => l1BelowN_ok 18 (by decide) hl hc2 hi) ?_; rintro v H' ⟨i, ch, _, hi, rfl, z, rfl, hz, rfl⟩) | (refine m_callL 1 (ent_of Tryz.func119 kr rfl) rfl rfl rfl (fun w M' hl => l1PickInt_ok hl hc2 hi (hl.own 0 rfl) (by decide)) ?_; rintro v H' ⟨i, ch, _, hi, rfl, y, rfl, hy, rfl⟩) | refine m_pushi 2 tabs rfl rfl rfl rfl rfl om (fun a9 c9 => ?_) | refine sLn tabs rfl rfl rfl ?_) | (show oA (.store _ _ _); first | refine m_storeb 0 tabs rfl rfl rfl rfl rfl rfl rfl ?_ | refine m_storef 2 tabs rfl rfl rfl rfl rfl rfl ?_ | refine m_storeb 4 tabs rfl rfl rfl rfl rfl rfl rfl ?_ | refine m_storeb 3 tabs rfl rfl rfl rfl rfl rfl rfl ?_) | (show oA (.alloc _); refine m_alloc tabs rfl rfl (fun b9 hb9 => ?_)) | (show oA (.buildSlice _ _ _); first | refine m_buildi tabs [-1, 9, 2, 9223372036854775807] rfl rfl rfl rfl rfl rfl rfl (fun g hg => ?_) | refine m_build1 tabs (us := [iV 0]) rfl rfl rfl rfl (by decide) rfl (fun g5 hg5 => ?_))) | (show oN; first | refine c_nil (x_then ?_) | refine c_nil ?_) | (show oC; first | refine c_seq ?_ | refine c_region ?_ | refine c_skip (x_blk ?_) | refine c_block ?_ | refine c_ret ?_ | refine c_if rfl (fun h => ?_) (fun h => ?_)) | (show AT _ _ _ _; first | refine x_then ?_ | refine x_blk ?_))
  · exact x_ret1 Tryz.results131 (res_cellb 4 tabs rfl rfl rfl rfl) (fun w' c' => ⟨_, _, rfl, ⟨i, ch, _, hi, rfl, (y, (C : Int), xs), a, c, rfl, ⟨by simp only; omega, by simp only; omega, by simp only; omega⟩, rfl⟩, c'.sub (.cons_cons _ (.cons _ (.cons _ (.cons_cons _ (List.nil_sublist _)))))⟩)
  · exact x_ret1 Tryz.results131 (res_cellb 3 tabs rfl rfl rfl rfl) (fun w' c' => ⟨_, _, rfl, ⟨i, ch, _, hi, rfl, ((R : Int), (C : Int), xs ++ [0]), a9, c9, by rw [List.length_append]; rfl, ⟨by simp only [List.length_append, List.length_singleton]; omega, by simp only; omega, by simp only; omega⟩, rfl⟩, by rw [List.length_append]; exact c'.swap.sub (.cons_cons _ (.cons_cons _ (List.nil_sublist _)))⟩)
  · rename_i b8 hb8 _ _ _ _ _ _ _ _ _ _ _ _
    refine AT.fact (own_sl 2 rfl) (fun hsl => ?_)
    obtain ⟨_, _, e, hs⟩ := hsl
    cases e
    refine c_all (Hp M' w [.blk b9 #[iV R, iV C, .slice a xs.length c] 47]) kr (fun _ c => Hp.drew c) ?_
    refine h_take 0 rfl kr kr kr (by exact y_field tabs rfl rfl rfl) rfl sS ?_
    refine h_take 1 rfl kr kr kr (by exact y_load tabs rfl rfl (hc_blk 0 rfl rfl)) rfl sS ?_
    refine h_take 2 rfl kr kr kr (by exact y_move rfl) rfl sS ?_
    refine h_only 3 rfl kr ?_
    first | (refine m_buildi tabs [-1, 5, 2] rfl rfl rfl rfl rfl rfl rfl (fun g hg => ?_)) | (refine m_callL 1 (ent_of Tryz.func119 kr rfl) rfl rfl rfl (fun w M' hl => l1PickInt_ok hl hc2 hi (hl.own 0 rfl) (by decide)) ?_; rintro v H' ⟨i, ch, _, hi, rfl, y, rfl, hy, rfl⟩) | (refine m_storeo 3 (j := 0) tabs rfl rfl rfl rfl om ?_)
    refine c_nil (x_one (h_keep sS ?_))
    refine h_only 4 rfl kr ?_
    first | (refine m_buildi tabs [-1, 5, 2] rfl rfl rfl rfl rfl rfl rfl (fun g hg => ?_)) | (refine m_callL 1 (ent_of Tryz.func119 kr rfl) rfl rfl rfl (fun w M' hl => l1PickInt_ok hl hc2 hi (hl.own 0 rfl) (by decide)) ?_; rintro v H' ⟨i, ch, _, hi, rfl, y, rfl, hy, rfl⟩) | (refine m_storeo 3 (j := 0) tabs rfl rfl rfl rfl om ?_)
    refine c_nil (x_one (h_keep sS ?_))
    refine h_take 5 rfl kr kr kr (by exact y_ix1 tabs (j := 0) rfl rfl rfl hs rfl om) rfl sS ?_
    refine h_only 6 rfl kr ?_
    first | (refine m_buildi tabs [-1, 5, 2] rfl rfl rfl rfl rfl rfl rfl (fun g hg => ?_)) | (refine m_callL 1 (ent_of Tryz.func119 kr rfl) rfl rfl rfl (fun w M' hl => l1PickInt_ok hl hc2 hi (hl.own 0 rfl) (by decide)) ?_; rintro v H' ⟨i, ch, _, hi, rfl, y, rfl, hy, rfl⟩) | (refine m_storeo 3 (j := 0) tabs rfl rfl rfl rfl om ?_)
    refine c_nil (x_one (h_keep sS ?_))
    refine h_end kr ?_
    repeat' (first | (show oL; first | refine sLb 2 tabs rfl rfl rfl rfl rfl ?_ | (show oA (.store _ _ _); refine m_storeb 4 tabs rfl rfl rfl rfl rfl rfl rfl ?_)) | refine xNt ?_ | (show oC; first | refine c_seq ?_ | refine c_region ?_ | refine c_ret ?_) | (show AT _ _ _ _; first | refine x_then ?_ | refine x_blk ?_))
    exact x_ret1 Tryz.results131 (res_cellb 4 tabs rfl rfl rfl rfl) (fun w' c' => ⟨_, _, rfl, ⟨i, ch, _, hi, rfl, ((R : Int), (C : Int), xs.set 0 y), a, c, by rw [List.length_set], ⟨by simp only [List.length_set]; omega, by simp only; omega, by simp only; omega⟩, rfl⟩, by rw [List.length_set]; exact c'.sub (.cons_cons _ (.cons _ (.cons _ (.cons_cons _ (List.nil_sublist _)))))⟩)
  all_goals exact x_ret1 Tryz.results131 (res_cellb 3 tabs rfl rfl rfl rfl) (fun w' c' => ⟨_, _, rfl, ⟨i, ch, _, hi, rfl, ((R : Int), (C : Int), xs), a, c, rfl, ⟨by simp only; omega, by simp only; omega, by simp only; omega⟩, rfl⟩, c'.sub (.cons_cons _ (.cons _ (.cons_cons _ (List.nil_sublist _))))⟩)
theorem hp_code {w w' : World} {H : List HE} {u : Value} (c : Hp [] w H w') (hc : CodeF w [] u) : CodeF w' [] u := by
  obtain ⟨xs, h, hb⟩ := hc
  exact ⟨xs, RdOut.of_rd (h.rd c), hb⟩
end Go.Proofs.YtijjkfbkihgfgaaGreat

namespace Go.Proofs.YtijjkfbkihgfgaaGreat
open Go.Lg Go.Proofs Go.RowKit
attribute [local irreducible] Code.wp wpList bodyPost Exit.then Exit.inBlock Hp Again Calls Y AT ResV QT Qn QI wpAny wpAnyQ
set_option maxRecDepth 20000
set_option maxHeartbeats 4000000

theorem l1Pick_ok {w1 : World} {M1 : List Nat} {H1 : List HE} {w : World} {M' : List Nat} {u v : Value} {b i : Nat} {h : Int} {l : List (List UInt8)} (hl : Lent M1 w1 (cu u b i h) H1 M' w) (hc : CodeF w1 M1 u) (hi : i ≤ vlen u) (hr : RdOut w M' (strT l) v) (hx : 0 < l.length) :
    DoesB Tryz.prog 288 [cuV b, v] w M' (Gcu u b (fun v H => ∃ x, v = sV x ∧ x ∈ l ∧ H = [])) := by
  have hc2 := lent_code hl hc
  obtain ⟨a, m, cap, rfl, hs, hmc, _, hlen, hg⟩ := RdOut.open (by decide) hr
  have hm : l.length = m := by simpa using hlen
  subst hm
  have hg' : ∀ j, j < l.length → ∀ w', Agree M' w w' → w'.cell? ⟨ab a, ao a + j, none⟩ = some (sV (l.getD j [])) := fun j hj => by
    obtain ⟨x, c, r⟩ := hg j (.c (sV (l.getD j []))) (by simp [List.getD, hj])
    rw [r.c] at c
    exact c
  have hmem : ∀ k : Int, 0 ≤ k → k < l.length → l.getD k.toNat [] ∈ l := fun k h0 h1 => by
    rw [List.getD, List.getElem?_eq_getElem (show k.toNat < l.length by omega)]; exact List.getElem_mem _
  refine fnb_lent Tryz.func288 rfl Tryz.ntmps288 rfl hl ?_
  repeat' (first | (show oL; first | refine sMv rfl rfl ?_ | refine sAs rfl rfl ?_ | (show oA (.load _ _); refine st_y (y_load tabs rfl rfl (fun w' c' => hg' _ om w' c'.agree)) rfl ?_) | (show oA (.indexAddr _ _ _); refine st_y (y_ixi tabs rfl rfl rfl hs om om) rfl ?_) | (show oA (.call _); first | (refine m_callL 0 (ent_of Tryz.func120 kr rfl) rfl rfl rfl (fun w M' hl => l1Below_ok l.length hl hc2 hi) ?_; rintro v H' ⟨i, h, _, hi, rfl, x, rfl, hx, rfl⟩) | refine sLn tabs rfl rfl rfl ?_)) | refine xNt ?_ | (show oC; first | refine c_seq ?_ | refine c_region ?_ | refine c_ret ?_))
  exact x_ret1 Tryz.results288 (res_tmp rfl) (fun w' c' => ⟨_, _, rfl, ⟨i, _, [], hi, rfl, _, rfl, hmem _ om om, rfl⟩, c'⟩)
def nmL : List (List UInt8) := [[65, 49], [65, 50], [65, 51], [65, 51, 105, 110], [65, 52], [68, 52], [68, 53], [75, 50], [115, 116, 97, 114, 52], [115, 113, 117, 97, 114, 101], [108, 111, 111, 112], [99, 105, 114, 99, 108, 101]]
def nmX (s : List UInt8) : List UInt8 :=
  if s = [65, 49] then [49, 58] else if s = [65, 50] then [50, 58, 32, 48, 49] else if s = [65, 51] then [51, 58, 32, 48, 49, 32, 49, 50] else if s = [65, 51, 105, 110] then [51, 58, 32, 48, 49, 32, 50, 49] else
  if s = [65, 52] then [52, 58, 32, 48, 49, 32, 49, 50, 32, 50, 51] else if s = [68, 52] then [52, 58, 32, 48, 51, 32, 49, 51, 32, 50, 51] else if s = [68, 53] then [53, 58, 32, 48, 50, 32, 49, 50, 32, 50, 51, 32, 51, 52] else
  if s = [75, 50] then [50, 58, 32, 48, 49, 32, 48, 49] else if s = [115, 116, 97, 114, 52] then [53, 58, 32, 48, 52, 32, 49, 52, 32, 50, 52, 32, 51, 52] else if s = [115, 113, 117, 97, 114, 101] then [52, 58, 32, 48, 49, 32, 48, 50, 32, 49, 51, 32, 50, 51] else
  if s = [108, 111, 111, 112] then [49, 58, 32, 48, 48] else if s = [99, 105, 114, 99, 108, 101] then [51, 58, 32, 48, 49, 32, 49, 50, 32, 50, 48] else []
theorem nm_par : ∀ k, k < 12 → parP (nmX (nmL.getD k [])) := by decide +kernel
theorem l6Names_ok {w : World} : Does Tryz.prog 263 [] w (fun v H => ∃ a c, v = .slice a nmL.length c ∧ SA a nmL.length ∧ H = [.own (strT nmL) (.slice a nmL.length c)]) := by
  refine fn_enter Tryz.func263 rfl Tryz.ntmps263 rfl ?_
  repeat' (first | (show oL; first | refine sAs rfl rfl ?_ | (show oA (.buildSlice _ _ _); refine m_buildc tabs (nmL.map sV) rfl rfl rfl rfl rfl rfl rfl (fun u hu => by obtain ⟨q, _, rfl⟩ := List.mem_map.1 hu; rfl) (fun g hg => ?_))) | refine xNt ?_ | (show oC; first | refine c_seq ?_ | refine c_region ?_ | refine c_ret ?_))
  exact x_ret1 Tryz.results263 (res_tmp rfl) (fun w' c' => ⟨_, _, rfl, ⟨_, _, rfl, .mk, rfl⟩, c'⟩)
theorem spec_NamedQuiver_ok {w : World} {s : List UInt8} : Does Tryz.prog 262 [sV s] w (GivesQn (parQ (nmX s)) (decide (parP (nmX s)))) := by
  refine fn_enter Tryz.func262 rfl Tryz.ntmps262 rfl ?_
  repeat' (first | (show oL; first | refine sMv rfl rfl ?_ | refine sAs rfl rfl ?_ | refine sLb 0 tabs rfl rfl rfl rfl rfl ?_ | (show oA (.binOp _ _ _ _ _); refine st_y (y_eqls rfl rfl) rfl ?_) | (show oA (.call _); (refine m_call (ent_of Tryz.func290 kr rfl) rfl rfl (fun w c => spec_ParseQuiver_ok (by decide)) ?_; rintro v H' ⟨a, c, a', c', rfl, rfl⟩)) | (show oA (.extract _ _); refine st_y (y_ext rfl rfl) rfl ?_) | (show oA (.store _ _ _); first | refine m_storeb 0 tabs rfl rfl rfl rfl rfl rfl rfl ?_ | refine m_storeb 3 tabs rfl rfl rfl rfl rfl rfl rfl ?_) | (show oA (.alloc _); refine m_alloc tabs rfl rfl (fun b2 hb2 => ?_))) | (show oN; first | refine c_nil (x_then ?_) | refine c_nil ?_) | (show oC; first | refine c_seq ?_ | refine c_region ?_ | refine c_skip (x_blk ?_) | refine c_block ?_ | refine c_ret ?_ | refine c_if rfl (fun h => ?_) (fun h => ?_)) | (show AT _ _ _ _; first | refine x_then ?_ | refine x_blk ?_))
  all_goals first
    | (subst h; exact x_ret2 Tryz.results262 (res_cellb 3 tabs rfl rfl rfl rfl) (res_tmp rfl) (fun wz cz => ⟨_, _, rfl, ⟨a, c, a', c', rfl, rfl⟩, cz.sub (.cons _ (.cons_cons _ (.cons_cons _ (List.nil_sublist _))))⟩))
    | (have e : nmX s = [] := by simp [nmX, *]
       rw [e]
       exact x_ret2 Tryz.results262 (res_cellb 3 tabs rfl rfl rfl rfl) (res_tmp rfl) (fun wz cz => ⟨_, _, rfl, ⟨a, c, a', c', rfl, rfl⟩, cz.sub (.cons _ (.cons_cons _ (.cons_cons _ (List.nil_sublist _))))⟩))
end Go.Proofs.YtijjkfbkihgfgaaGreat

namespace Go.Proofs.YtijjkfbkihgfgaaGreat
open Go.Lg Go.Proofs Go.RowKit
attribute [local irreducible] Code.wp wpList bodyPost Exit.then Exit.inBlock Hp Again Calls Y AT ResV QT Qn QI wpAny wpAnyQ
set_option maxRecDepth 20000
set_option maxHeartbeats 4000000

def GivesQd (φ : Qv → Prop) (v : Value) (H : List HE) : Prop := ∃ (q : Qv) (a : Option Addr) (c : Nat) (a' : Option Addr) (c' : Nat), v = .agg #[iV q.1, .slice a q.2.1.length c, .slice a' q.2.2.length c'] ∧ φ q ∧ H = [.own (iT q.2.2) (.slice a' q.2.2.length c'), .own (iT q.2.1) (.slice a q.2.1.length c)]
theorem par_quiv {s : List UInt8} (h : parP s) : QuivP (parQ s) := by
  rw [parQ, if_pos h]; exact h.1
theorem nm_quiv {k : Nat} (h : k < 12) : QuivP (parQ (nmX (nmL.getD k []))) := par_quiv (nm_par k h)
theorem nm_cell {k : Nat} (h : k < 12) : (nmL.map sV)[k]? = some (sV (nmL.getD k [])) := by
  rw [List.getElem?_map, List.getD, List.getElem?_eq_getElem (show k < nmL.length from h)]; rfl
theorem inP_app {lo hi : Int} {xs : List Int} {x : Int} (h : InP lo hi xs) (hx : lo ≤ x ∧ x ≤ hi) : InP lo hi (xs ++ [x]) := fun y hy => by
  rcases List.mem_append.1 hy with h1 | h1
  · exact h y h1
  · simp at h1; omega
theorem l6Acyclic_ok {w1 : World} {M1 : List Nat} {H1 : List HE} {w : World} {M' : List Nat} {u : Value} {b i : Nat} {h : Int} (hl : Lent M1 w1 (cu u b i h) H1 M' w) (hc : CodeF w1 M1 u) (hi : i ≤ vlen u) :
    DoesB Tryz.prog 188 [cuV b] w M' (Gcu u b (GivesQd QuivP)) := by
  have hc2 := lent_code hl hc
  refine fnb_lent Tryz.func188 rfl Tryz.ntmps188 rfl hl ?_
  repeat' (first | (show oL; first | refine sMv rfl rfl ?_ | refine sAs rfl rfl ?_ | (show oA (.load _ _); first | refine st_y (y_load tabs rfl rfl (hc_nm 1 rfl (nm_cell (k := k) om))) rfl ?_ | refine sLb 0 tabs rfl rfl rfl rfl rfl ?_) | (show oA (.indexAddr _ _ _); refine st_y (y_ix1 tabs (j := k) rfl rfl rfl hsn rfl (show k < 12 by omega)) rfl ?_) | refine sAd rfl rfl om rfl ?_ | (show oA (.call _); first | (refine m_callL 1 (ent_of Tryz.func127 kr rfl) rfl rfl rfl (fun w M' hl => l1Once_ok 2 hl hc2 hi) ?_; rintro v H' ⟨i, h, _, hi, rfl, (_ | _), rfl, rfl⟩) | (refine m_call (ent_of Tryz.func263 kr rfl) rfl rfl (fun w c => l6Names_ok) ?_; rintro v H' ⟨an, cn, rfl, hsn, rfl⟩) | (refine m_callL 1 (ent_of Tryz.func120 kr rfl) rfl rfl rfl (fun w M' hl => l1BelowN_ok 10 (by decide) hl hc2 hi) ?_; rintro v H' ⟨i, ch, _, hi, rfl, k, rfl, hk, rfl⟩) | (refine m_call (ent_of Tryz.func262 kr rfl) rfl rfl (fun w c => spec_NamedQuiver_ok) ?_; rintro v H' ⟨a3, c3, a4, c4, rfl, rfl⟩) | (refine m_callL 0 (ent_of Tryz.func120 kr rfl) rfl rfl rfl (fun w M' hl => l1BelowN_ok 4 (by decide) hl hc2 hi) ?_; rintro v H' ⟨i, ch, _, hi, rfl, k, rfl, hk, rfl⟩) | (refine m_callL 3 (ent_of Tryz.func120 kr rfl) rfl rfl rfl (fun w M' hl => l1BelowN_ok 5 (by decide) hl hc2 hi) ?_; rintro v H' ⟨i, ch, _, hi, rfl, n0, rfl, hn0, rfl⟩)) | (show oA (.extract _ _); refine st_y (y_ext rfl rfl) rfl ?_) | (show oA (.store _ _ _); first | refine m_storeb 0 tabs rfl rfl rfl rfl rfl rfl rfl ?_ | refine m_storeb 5 tabs rfl rfl rfl rfl rfl rfl rfl ?_) | (show oA (.alloc _); refine m_alloc tabs rfl rfl (fun b2 hb2 => ?_)) | (show oA (.buildSlice _ _ _); refine m_build0 tabs rfl rfl (fun g hg0 => ?_)) | (show oA (.build _ _); refine st_y (y_bld3 (bld_qn _ _ _ _ _ _ _) rfl rfl rfl) rfl ?_)) | refine xNt ?_ | (show oC; first | refine c_seq ?_ | refine c_region ?_ | refine c_skip (x_then ?_) | refine c_block ?_ | refine c_ret ?_ | refine c_true rfl ?_ | refine c_false rfl ?_) | (show AT _ _ _ _; refine x_then_ret ?_))
  · rename_i b0 hb0 _ _ _ _ _ g1 hg1
    refine c_loopH (α := Nat × (List Int × List Int) × (Option Addr × Nat × Option Addr × Nat) × Nat × Int) [0, 2, 5] (fun s => [(6, iV s.1)]) (fun s => (s.2.1.1.length = s.2.1.2.length ∧ s.2.1.1.length + s.1 ≤ 4) ∧ (InP 0 (k : Int) s.2.1.1 ∧ InP 0 (k : Int) s.2.1.2) ∧ s.2.2.2.1 ≤ vlen u) (fun s => [cu u b s.2.2.2.1 s.2.2.2.2, .blk b2 #[iV (1 + k), .slice s.2.2.1.1 s.2.1.1.length s.2.2.1.2.1, .slice s.2.2.1.2.2.1 s.2.1.2.length s.2.2.1.2.2.2] 57, .own (iT s.2.1.2) (.slice s.2.2.1.2.2.1 s.2.1.2.length s.2.2.1.2.2.2), .own (iT s.2.1.1) (.slice s.2.2.1.1 s.2.1.1.length s.2.2.1.2.1), .blk b0 #[iV 0, .slice none 0 0, .slice none 0 0] 57]) (fun s => s.1) (n0, ([], []), (some ⟨g1, 0, none⟩, 0, some ⟨g, 0, none⟩, 0), i, ch) rfl sB ?_ ?_ ?_
    · exact ⟨⟨rfl, by simp only [List.length_nil]; omega⟩, ⟨by intro x hx; simp at hx, by intro x hx; simp at hx⟩, hi⟩
    · exact fun w' c' => c'
    · rintro ⟨m, ⟨xs, ys⟩, ⟨a1, c1, a2, c2⟩, i, ch⟩ ⟨⟨hxy, hm⟩, ⟨hx, hy⟩, hi⟩
      simp only at hxy hm hx hy hi ⊢
      by_cases hin : 0 < m ∧ 0 < k
      · obtain ⟨hm0, hk0⟩ := hin
        repeat' (first | (show oL; first | refine sMv rfl rfl ?_ | refine sAs rfl rfl ?_ | refine sFd tabs rfl rfl rfl rfl ?_ | refine sLd 1 tabs rfl rfl rfl rfl rfl ?_ | (show oA (.binOp _ _ _ _ _); first | refine st_y (y_sub rfl rfl om) rfl ?_ | refine st_y (y_gtr rfl rfl) rfl ?_) | (show oA (.call _); first | (refine m_callL 0 (ent_of Tryz.func120 kr rfl) rfl rfl rfl (fun w M' hl => l1Below_ok (1 + (k : Int) - 1) hl hc2 hi) ?_; rintro v H' ⟨i, ch, _, hi, rfl, x, rfl, hx2, rfl⟩) | refine m_pushi 3 tabs rfl rfl rfl rfl rfl om (fun a5 c5 => ?_)) | (show oA (.pick _ _ _); refine st_y (y_pickt rfl aO rfl) rfl ?_) | (show oA (.store _ _ _); refine m_storef 2 tabs rfl rfl rfl rfl rfl rfl ?_) | (show oA (.buildSlice _ _ _); refine m_build1 tabs (us := [iV x]) rfl rfl rfl rfl (by decide) rfl (fun g5 hg5 => ?_)) | refine st_gdy rfl rfl aO ?_) | refine xNt ?_ | (show oC; first | refine c_seq ?_ | refine c_region ?_ | refine c_skip (x_then ?_) | refine c_block ?_ | refine c_ift rfl aO ?_))
        refine c_mixR (Hp M' w [.blk b2 #[iV (1 + k), .slice a5 (xs.length + 1) c5, .slice a2 ys.length c2] 57]) 14 kr kr kr kr kr (fun _ c => Hp.drew c) ?_
        refine h_take 0 rfl kr kr kr (by exact y_field tabs rfl rfl rfl) rfl sS ?_
        refine h_take 1 rfl kr kr kr (by exact y_load tabs rfl rfl (hc_blk 0 rfl rfl)) rfl sS ?_
        refine h_take 2 rfl kr kr kr (by exact y_move rfl) rfl sS ?_
        refine h_take 3 rfl kr kr kr (by exact y_add rfl rfl om) rfl sS ?_
        refine h_take 4 rfl kr kr kr (by exact y_move rfl) rfl sS ?_
        refine h_take 5 rfl kr kr kr (by exact y_field tabs rfl rfl rfl) rfl sS ?_
        refine h_take 6 rfl kr kr kr (by exact y_load tabs rfl rfl (hc_blk 0 rfl rfl)) rfl sS ?_
        refine h_take 7 rfl kr kr kr (by exact y_sub rfl rfl om) rfl sS ?_
        refine h_take 8 rfl kr kr kr (by exact y_move rfl) rfl sS ?_
        refine h_take 9 rfl kr kr kr (by exact y_sub rfl rfl om) rfl sS ?_
        refine h_only 10 rfl kr ?_
        first | (refine m_build1 tabs (us := [iV (x + 1 + y)]) rfl rfl rfl rfl (by decide) rfl (fun g6 hg6 => ?_)) | (refine m_callL 1 (ent_of Tryz.func120 kr rfl) rfl rfl rfl (fun w M' hl => l1Below_ok (1 + (k : Int) - 1 - x) hl hc2 hi) ?_; rintro v H' ⟨i, ch, _, hi, rfl, y, rfl, hy2, rfl⟩) | (refine m_pushi 3 tabs rfl rfl rfl rfl rfl om (fun a6 c6 => ?_))
        refine c_nil (x_one (h_keep sS ?_))
        refine h_take 11 rfl kr kr kr (by exact y_add rfl rfl om) rfl sS ?_
        refine h_only 12 rfl kr ?_
        first | (refine m_build1 tabs (us := [iV (x + 1 + y)]) rfl rfl rfl rfl (by decide) rfl (fun g6 hg6 => ?_)) | (refine m_callL 1 (ent_of Tryz.func120 kr rfl) rfl rfl rfl (fun w M' hl => l1Below_ok (1 + (k : Int) - 1 - x) hl hc2 hi) ?_; rintro v H' ⟨i, ch, _, hi, rfl, y, rfl, hy2, rfl⟩) | (refine m_pushi 3 tabs rfl rfl rfl rfl rfl om (fun a6 c6 => ?_))
        refine c_nil (x_one (h_keep sS ?_))
        refine h_only 13 rfl kr ?_
        first | (refine m_build1 tabs (us := [iV (x + 1 + y)]) rfl rfl rfl rfl (by decide) rfl (fun g6 hg6 => ?_)) | (refine m_callL 1 (ent_of Tryz.func120 kr rfl) rfl rfl rfl (fun w M' hl => l1Below_ok (1 + (k : Int) - 1 - x) hl hc2 hi) ?_; rintro v H' ⟨i, ch, _, hi, rfl, y, rfl, hy2, rfl⟩) | (refine m_pushi 3 tabs rfl rfl rfl rfl rfl om (fun a6 c6 => ?_))
        refine c_nil (x_one (h_keep sS ?_))
        refine h_end kr ?_
        repeat' (first | (show oL; first | refine sMv rfl rfl ?_ | refine sAs rfl rfl ?_ | refine sFd tabs rfl rfl rfl rfl ?_ | (show oA (.binOp _ _ _ _ _); refine st_y (y_sub rfl rfl om) rfl ?_) | (show oA (.store _ _ _); refine m_storef 3 tabs rfl rfl rfl rfl rfl rfl ?_)) | (show oN; first | refine c_nil (x_then ?_) | refine c_nil ?_) | (show oC; refine c_region ?_) | (show AT _ _ _ _; first | refine x_then ?_ | refine x_blk ?_))
        exact x_nx (m - 1, (xs ++ [x], ys ++ [x + 1 + y]), (a5, c5, a6, c6), i, ch) sB ⟨⟨by simp only [List.length_append, List.length_singleton]; omega, by simp only [List.length_append, List.length_singleton]; omega⟩, ⟨inP_app hx om, inP_app hy om⟩, hi⟩ (fun w' c' => by
          simp only [List.length_append, List.length_singleton]
          exact (((c'.front (i := 2) rfl).front (i := 1) rfl).front (i := 3) rfl).front (i := 3) rfl) (by simp only; omega)
      · skip
        repeat' (first | (show oL; first | refine sMv rfl rfl ?_ | refine sFd tabs rfl rfl rfl rfl ?_ | (show oA (.load _ _); first | refine sLd 1 tabs rfl rfl rfl rfl rfl ?_ | refine sLb 1 tabs rfl rfl rfl rfl rfl ?_) | (show oA (.binOp _ _ _ _ _); refine st_y (y_gtr rfl rfl) rfl ?_) | (show oA (.pick _ _ _); first | refine st_y (y_pickt rfl aO rfl) rfl ?_ | refine st_y (y_pickf rfl aO rfl) rfl ?_) | (show oA (.store _ _ _); refine m_storeb 4 tabs rfl rfl rfl rfl rfl rfl rfl ?_) | refine st_gdy rfl rfl aO ?_ | refine st_gdn rfl rfl aO rfl ?_ | refine st_gd rfl rfl (fun h => ?_) (fun h => ?_)) | refine xNt ?_ | (show oC; first | refine c_seq ?_ | refine c_region ?_ | refine c_ret ?_ | refine c_exit ?_ | refine c_false rfl ?_ | refine c_iff rfl nN ?_) | (show AT _ _ _ _; first | refine x_then ?_ | refine x_then_exit ?_ | refine x_blk_exit rfl ?_))
        all_goals exact x_ret1 Tryz.results188 (res_cellb 4 tabs rfl rfl rfl rfl) (fun w' c' => ⟨_, _, rfl, ⟨i, ch, _, hi, rfl, (1 + (k : Int), xs, ys), a1, c1, a2, c2, rfl, ⟨by simp only; omega, by simp only; omega, by simp only; omega, by simp only; rw [show 1 + (k : Int) - 1 = k by omega]; exact hx, by simp only; rw [show 1 + (k : Int) - 1 = k by omega]; exact hy⟩, rfl⟩, c'.sub (.cons_cons _ (.cons _ (.cons_cons _ (.cons_cons _ (List.nil_sublist _)))))⟩)
  · skip
    exact x_ret1 Tryz.results188 (res_cellb 5 tabs rfl rfl rfl rfl) (fun w' c' => ⟨_, _, rfl, ⟨i, ch, _, hi, rfl, parQ (nmX (nmL.getD k [])), a3, c3, a4, c4, rfl, nm_quiv om, rfl⟩, (c'.front (i := 3) rfl).sub (.cons_cons _ (.cons _ (.cons_cons _ (.cons_cons _ (List.nil_sublist _)))))⟩)
def QivB (q : Qv) : Prop := q.2.1.length ≤ 7 ∧ q.2.2.length ≤ 7 ∧ q.1 ≤ 6
theorem quivB {q : Qv} (h : QuivP q) : QivB q := ⟨by have := h.2.1; omega, by have := h.2.1; have := h.2.2.1; omega, by have := h.1; omega⟩
theorem l6Any_ok {w1 : World} {M1 : List Nat} {H1 : List HE} {w : World} {M' : List Nat} {u : Value} {b i : Nat} {h : Int} (hl : Lent M1 w1 (cu u b i h) H1 M' w) (hc : CodeF w1 M1 u) (hi : i ≤ vlen u) :
    DoesB Tryz.prog 256 [cuV b] w M' (Gcu u b (GivesQd QivB)) := by
  have hc2 := lent_code hl hc
  refine fnb_lent Tryz.func256 rfl Tryz.ntmps256 rfl hl ?_
  repeat' (first | (show oL; first | refine sMv rfl rfl ?_ | refine sAs rfl rfl ?_ | refine sLb 1 tabs rfl rfl rfl rfl rfl ?_ | (show oA (.binOp _ _ _ _ _); refine st_y (y_eql rfl rfl) rfl ?_) | (show oA (.call _); first | (refine m_callL 1 (ent_of Tryz.func188 kr rfl) rfl rfl rfl (fun w M' hl => l6Acyclic_ok hl hc2 hi) ?_; rintro v H' ⟨i, h, _, hi, rfl, q, a, c, a', c', rfl, hq, rfl⟩) | (refine m_callL 1 (ent_of Tryz.func120 kr rfl) rfl rfl rfl (fun w M' hl => l1BelowN_ok 14 (by decide) hl hc2 hi) ?_; rintro v H' ⟨i, ch, _, hi, rfl, k, rfl, hk, rfl⟩)) | (show oA (.store _ _ _); refine m_storeb 0 tabs rfl rfl rfl rfl rfl rfl rfl ?_) | (show oA (.alloc _); refine m_alloc tabs rfl rfl (fun b2 hb2 => ?_))) | refine xNt ?_ | (show oC; first | refine c_seq ?_ | refine c_region ?_ | refine c_skip (x_blk ?_) | refine c_block ?_ | refine c_if rfl (fun h => ?_) (fun h => ?_)) | (show AT _ _ _ _; refine x_then ?_))
  · rename_i b0 hb0 _ _ _ _ _ _
    repeat' (first | (show oL; first | refine sMv rfl rfl ?_ | refine sLb 4 tabs rfl rfl rfl rfl rfl ?_ | (show oA (.call _); first | (refine m_callL 1 (ent_of Tryz.func288 kr rfl) rfl rfl rfl (fun w M' hl => l1Pick_ok (l := [[108, 111, 111, 112], [99, 105, 114, 99, 108, 101]]) hl hc2 hi (hl.own 0 rfl) (by decide)) ?_; rintro v H' ⟨i, ch, _, hi, rfl, x, rfl, hx, rfl⟩) | (refine m_call (ent_of Tryz.func262 kr rfl) rfl rfl (fun w c => spec_NamedQuiver_ok) ?_; rintro v H' ⟨a3, c3, a4, c4, rfl, rfl⟩)) | (show oA (.extract _ _); refine st_y (y_ext rfl rfl) rfl ?_) | (show oA (.store _ _ _); first | refine m_storeb 4 tabs rfl rfl rfl rfl rfl rfl rfl ?_ | refine m_storeb 7 tabs rfl rfl rfl rfl rfl rfl rfl ?_) | (show oA (.buildSlice _ _ _); refine m_buildc tabs ([[108, 111, 111, 112], [99, 105, 114, 99, 108, 101]].map sV) rfl rfl rfl rfl rfl rfl rfl (fun u hu => by obtain ⟨q, _, rfl⟩ := List.mem_map.1 hu; rfl) (fun g hg => ?_))) | (show oN; first | refine c_nil (x_then ?_) | refine c_nil ?_) | (show oC; first | refine c_seq ?_ | refine c_region ?_ | refine c_ret ?_) | (show AT _ _ _ _; first | refine x_then ?_ | refine x_blk ?_))
    have hx2 : QuivP (parQ (nmX x)) := by
      simp only [List.mem_cons, List.not_mem_nil, or_false] at hx
      rcases hx with rfl | rfl
      · exact nm_quiv (k := 10) (by decide)
      · exact nm_quiv (k := 11) (by decide)
    exact x_ret1 Tryz.results256 (res_cellb 7 tabs rfl rfl rfl rfl) (fun wz cz => ⟨_, _, rfl, ⟨i, ch, _, hi, rfl, parQ (nmX x), a3, c3, a4, c4, rfl, quivB hx2, rfl⟩, (cz.front (i := 2) rfl).sub (.cons_cons _ (.cons_cons _ (.cons_cons _ (List.nil_sublist _))))⟩)
  · rename_i b0 hb0 _ _ _ _ _ _ _
    repeat' (first | (show oL; first | refine sFd tabs rfl rfl rfl rfl ?_ | refine sLb 2 tabs rfl rfl rfl rfl rfl ?_ | (show oA (.call _); (refine m_callL 1 (ent_of Tryz.func119 kr rfl) rfl rfl rfl (fun w M' hl => l1PickInt_ok hl hc2 hi (hl.own 0 rfl) (by decide)) ?_; rintro v H' ⟨i, ch, _, hi, rfl, y, rfl, hy, rfl⟩)) | (show oA (.store _ _ _); first | refine m_storef 2 tabs rfl rfl rfl rfl rfl rfl ?_ | refine m_storeb 5 tabs rfl rfl rfl rfl rfl rfl rfl ?_) | (show oA (.buildSlice _ _ _); refine m_buildi tabs [0, 6, -1, 2] rfl rfl rfl rfl rfl rfl rfl (fun g hg => ?_))) | (show oN; first | refine c_nil (x_then ?_) | refine c_nil ?_) | (show oC; first | refine c_seq ?_ | refine c_region ?_ | refine c_ret ?_) | (show AT _ _ _ _; first | refine x_then ?_ | refine x_blk ?_))
    exact x_ret1 Tryz.results256 (res_cellb 5 tabs rfl rfl rfl rfl) (fun wz cz => ⟨_, _, rfl, ⟨i, ch, _, hi, rfl, (y, q.2), a, c, a', c', rfl, ⟨by have := hq.2.1; simp only; omega, by have := hq.2.1; have := hq.2.2.1; simp only; omega, by simp at hy; simp only; omega⟩, rfl⟩, cz.sub (.cons_cons _ (.cons _ (.cons _ (.cons_cons _ (.cons_cons _ (List.nil_sublist _))))))⟩)
  · rename_i b0 hb0 _ _ _ _ _ _ _ _
    refine c_mixR (Hp M' w [.blk b2 #[iV q.1, .slice a q.2.1.length c, .slice a' q.2.2.length c'] 57]) 7 kr kr kr kr kr (fun _ c => Hp.drew c) ?_
    refine h_take 0 rfl kr kr kr (by exact y_field tabs rfl rfl rfl) rfl sS ?_
    refine h_take 1 rfl kr kr kr (by exact y_load tabs rfl rfl (hc_blk 0 rfl rfl)) rfl sS ?_
    refine h_take 2 rfl kr kr kr (by exact y_move rfl) rfl sS ?_
    refine h_only 3 rfl kr ?_
    first | (refine m_build1 tabs (us := [iV ((y : Int) - 1)]) rfl rfl rfl rfl (by decide) rfl (fun g6 hg6 => ?_)) | (refine m_callL 0 (ent_of Tryz.func120 kr rfl) rfl rfl rfl (fun w M' hl => l1BelowN_ok 6 (by decide) hl hc2 hi) ?_; rintro v H' ⟨i, ch, _, hi, rfl, y, rfl, hy2, rfl⟩) | (refine m_pushi 3 tabs rfl rfl rfl rfl rfl (by have := hq.2.1; omega) (fun a6 c6 => ?_))
    refine c_nil (x_one (h_keep sS ?_))
    refine h_take 4 rfl kr kr kr (by exact y_sub rfl rfl om) rfl sS ?_
    refine h_only 5 rfl kr ?_
    first | (refine m_build1 tabs (us := [iV ((y : Int) - 1)]) rfl rfl rfl rfl (by decide) rfl (fun g6 hg6 => ?_)) | (refine m_callL 0 (ent_of Tryz.func120 kr rfl) rfl rfl rfl (fun w M' hl => l1BelowN_ok 6 (by decide) hl hc2 hi) ?_; rintro v H' ⟨i, ch, _, hi, rfl, y, rfl, hy2, rfl⟩) | (refine m_pushi 3 tabs rfl rfl rfl rfl rfl (by have := hq.2.1; omega) (fun a6 c6 => ?_))
    refine c_nil (x_one (h_keep sS ?_))
    refine h_only 6 rfl kr ?_
    first | (refine m_build1 tabs (us := [iV ((y : Int) - 1)]) rfl rfl rfl rfl (by decide) rfl (fun g6 hg6 => ?_)) | (refine m_callL 0 (ent_of Tryz.func120 kr rfl) rfl rfl rfl (fun w M' hl => l1BelowN_ok 6 (by decide) hl hc2 hi) ?_; rintro v H' ⟨i, ch, _, hi, rfl, y, rfl, hy2, rfl⟩) | (refine m_pushi 3 tabs rfl rfl rfl rfl rfl (by have := hq.2.1; omega) (fun a6 c6 => ?_))
    refine c_nil (x_one (h_keep sS ?_))
    refine h_end kr ?_
    repeat' (first | (show oL; first | refine sFd tabs rfl rfl rfl rfl ?_ | refine sLb 2 tabs rfl rfl rfl rfl rfl ?_ | (show oA (.store _ _ _); first | refine m_storef 2 tabs rfl rfl rfl rfl rfl rfl ?_ | refine m_storeb 4 tabs rfl rfl rfl rfl rfl rfl rfl ?_)) | (show oN; first | refine c_nil (x_then ?_) | refine c_nil ?_) | (show oC; first | refine c_seq ?_ | refine c_region ?_ | refine c_ret ?_) | (show AT _ _ _ _; first | refine x_then ?_ | refine x_blk ?_))
    exact x_ret1 Tryz.results256 (res_cellb 4 tabs rfl rfl rfl rfl) (fun wz cz => ⟨_, _, rfl, ⟨i, ch, _, hi, rfl, (q.1, q.2.1 ++ [(y : Int) - 1], q.2.2), a6, c6, a', c', by simp only [List.length_append, List.length_singleton]; rfl, ⟨by have := hq.2.1; simp only [List.length_append, List.length_singleton]; omega, by have := hq.2.1; have := hq.2.2.1; simp only; omega, by have := hq.1; simp only; omega⟩, rfl⟩, by
      simp only [List.length_append, List.length_singleton]
      exact ((cz.front (i := 3) rfl).front (i := 2) rfl).sub (.cons_cons _ (.cons_cons _ (.cons_cons _ (List.nil_sublist _))))⟩)
  · skip
    repeat' (first | (show oL; first | (show oA (.store _ _ _); refine m_storeb 4 tabs rfl rfl rfl rfl rfl rfl rfl ?_)) | refine xNt ?_ | (show oC; refine c_ret ?_))
    exact x_ret1 Tryz.results256 (res_cellb 4 tabs rfl rfl rfl rfl) (fun wz cz => ⟨_, _, rfl, ⟨i, ch, _, hi, rfl, q, a, c, a', c', rfl, quivB hq, rfl⟩, cz.sub (.cons_cons _ (.cons _ (.cons_cons _ (.cons_cons _ (List.nil_sublist _)))))⟩)
end Go.Proofs.YtijjkfbkihgfgaaGreat

namespace Go.Proofs.YtijjkfbkihgfgaaGreat
open Go.Lg Go.Proofs Go.RowKit
attribute [local irreducible] Code.wp wpList bodyPost Exit.then Exit.inBlock Hp Again Calls Y AT ResV QT Qn QI wpAny wpAnyQ
set_option maxRecDepth 20000
set_option maxHeartbeats 4000000

theorem l8Dims_ok {w1 : World} {M1 : List Nat} {H1 : List HE} {w : World} {M' : List Nat} {u : Value} {b i : Nat} {h : Int} {q : Qv} {u0 u1 : Value} (most : Nat) (hm : most ≤ 3) (hl : Lent M1 w1 (cu u b i h) H1 M' w) (hc : CodeF w1 M1 u) (hi : i ≤ vlen u) :
    DoesB Tryz.prog 265 [cuV b, .agg #[iV q.1, u0, u1], iV most] w M' (Gcu u b (fun v H => ∃ (ds : List Int) (a : Option Addr) (c : Nat), v = .slice a ds.length c ∧ ((ds.length : Int) = max 0 (min q.1 5)) ∧ InP 0 most ds ∧ ds.sum ≤ 8 ∧ H = [.own (iT ds) (.slice a ds.length c)])) := by
  have hc2 := lent_code hl hc
  refine fnb_lent Tryz.func265 rfl Tryz.ntmps265 rfl hl ?_
  repeat' (first | (show oL; first | refine sAs rfl rfl ?_ | (show oA (.box _ _); refine m_box rfl rfl (fun b4 hb4 => ?_)) | (show oA (.buildSlice _ _ _); refine m_build0 tabs rfl rfl (fun g hg => ?_))) | refine xNt ?_ | (show oC; first | refine c_seq ?_ | refine c_region ?_ | refine c_block ?_))
  refine c_loopH (α := (List Int × Option Addr × Nat) × Int × Nat × Int) [0, 2, 4] (fun s => [(7, .slice s.1.2.1 s.1.1.length s.1.2.2), (8, iV s.2.1), (9, iV s.1.1.length)]) (fun s => ((s.1.1.length : Int) ≤ max 0 (min q.1 5) ∧ s.1.1.sum + s.2.1 = 8 ∧ 0 ≤ s.2.1) ∧ InP 0 most s.1.1 ∧ s.2.2.1 ≤ vlen u) (fun s => [.own (iT s.1.1) (.slice s.1.2.1 s.1.1.length s.1.2.2), cu u b s.2.2.1 s.2.2.2, .blk b4 #[iV q.1, u0, u1] 57]) (fun s => 5 - s.1.1.length) (([], some ⟨g, 0, none⟩, 0), 8, i, h) rfl sB ?_ ?_ ?_
  · exact ⟨⟨by simp only [List.length_nil]; omega, by simp, by show (0 : Int) ≤ 8; omega⟩, by intro x hx; simp at hx, hi⟩
  · exact fun w' c' => (c'.front (i := 2) rfl).swap
  · rintro ⟨⟨ds, a, c⟩, left, i, ch⟩ ⟨⟨hds, hsum, hleft⟩, hin, hi⟩
    simp only at hds hsum hleft hin hi ⊢
    have hsn := sum_in (xs := ds) (fun x hx => by have := hin x hx; omega)
    repeat' (first | (show oL; first | refine sMv rfl rfl ?_ | refine sAs rfl rfl ?_ | refine sFd tabs rfl rfl rfl rfl ?_ | refine sLd 2 tabs rfl rfl rfl rfl rfl ?_ | (show oA (.binOp _ _ _ _ _); first | refine sAd rfl rfl om rfl ?_ | refine st_y (y_sub rfl rfl om) rfl ?_ | refine sLs rfl rfl rfl ?_) | (show oA (.call _); first | (refine m_callL 1 (ent_of Tryz.func120 kr rfl) rfl rfl rfl (fun w M' hl => l1Below_ok ((most : Int) + 1) hl hc2 hi) ?_; rintro v H' ⟨i, ch, _, hi, rfl, y, rfl, hy, rfl⟩) | refine st_y (y_min rfl rfl) rfl ?_ | refine m_pushi 1 tabs rfl rfl rfl rfl rfl om (fun a6 c6 => ?_)) | (show oA (.pick _ _ _); first | refine st_y (y_pickt rfl aO rfl) rfl ?_ | refine st_y (y_pickf rfl aO rfl) rfl ?_) | (show oA (.buildSlice _ _ _); refine m_build1 tabs (us := [iV (min left y)]) rfl rfl rfl rfl (by decide) rfl (fun g6 hg6 => ?_)) | refine st_gdy rfl rfl aO ?_ | refine st_gdn rfl rfl aO rfl ?_ | refine st_gd rfl rfl (fun h => ?_) (fun h => ?_)) | (show oN; first | refine c_nil (x_then ?_) | refine c_nil ?_) | (show oC; first | refine c_seq ?_ | refine c_region ?_ | refine c_skip (x_then ?_) | refine c_block ?_ | refine c_ret ?_ | refine c_exit ?_ | refine c_false rfl ?_ | refine c_if rfl (fun h => ?_) (fun h => ?_)) | (show AT _ _ _ _; first | refine x_then ?_ | refine x_then_exit ?_ | refine x_blk_exit rfl ?_ | refine x_blk ?_))
    · exact x_nx ((ds ++ [min left y], a6, c6), left - min left y, i, ch) (by simp only [List.length_append, List.length_singleton]; repeat' (first | exact Sub.nil | refine Sub.cons rfl ?_ | refine Sub.consi rfl om ?_)) ⟨⟨by simp only [List.length_append, List.length_singleton]; omega, by simp only [List.sum_append, List.sum_cons, List.sum_nil]; omega, by simp only; omega⟩, inP_app hin om, hi⟩ (fun w' c' => by rw [List.length_append]; exact c') (by simp only [List.length_append, List.length_singleton]; omega)
    all_goals exact x_ret1 Tryz.results265 (res_tmp rfl) (fun w' c' => ⟨_, _, rfl, ⟨i, ch, _, hi, rfl, ds, a, c, rfl, by omega, hin, by omega, rfl⟩, c'.swap.sub (.cons_cons _ (.cons_cons _ (List.nil_sublist _)))⟩)
theorem hc_mr0 (i : Nat) {M : List Nat} {w0 : World} {H : List HE} {e m c j : Nat} {rs : List Mat} {a : Option Addr} {z : Mat} {x : Int} (hi : H[i]? = some (.own (matsT e rs) (.slice a m c))) (hz : rs[j]? = some z) (hx : z.1 = x) : ∀ w, Hp M w0 H w → w.cell? ⟨ab a, ao a + j * 3, none⟩ = some (iV x) := fun w cw => by
  subst hx
  obtain ⟨a', c', k1, _, _, _, k2⟩ := rd_mats (cw.own_rd hi)
  injection k1 with k5
  subst k5
  obtain ⟨a4, c4, k3, _⟩ := k2 j z hz
  exact k3
theorem hc_mr1 (i : Nat) {M : List Nat} {w0 : World} {H : List HE} {e m c j : Nat} {rs : List Mat} {a : Option Addr} {z : Mat} {x : Int} (hi : H[i]? = some (.own (matsT e rs) (.slice a m c))) (hz : rs[j]? = some z) (hx : z.2.1 = x) : ∀ w, Hp M w0 H w → w.cell? ⟨ab a, ao a + j * 3 + 1, none⟩ = some (iV x) := fun w cw => by
  subst hx
  obtain ⟨a', c', k1, _, _, _, k2⟩ := rd_mats (cw.own_rd hi)
  injection k1 with k5
  subst k5
  obtain ⟨a4, c4, _, k3, _⟩ := k2 j z hz
  exact k3
def SmM (ms : List Mat) : Prop := ∀ (j : Nat) (m : Mat), ms[j]? = some m → ∃ R C : Nat, m.1 = R ∧ m.2.1 = C ∧ R ≤ 1000 ∧ C ≤ 1000
theorem smM_set {ms : List Mat} {j : Nat} {m : Mat} (h : SmM ms) (hm : ∃ R C : Nat, m.1 = R ∧ m.2.1 = C ∧ R ≤ 1000 ∧ C ≤ 1000) : SmM (ms.set j m) := fun k x hx => by
  rw [List.getElem?_set] at hx
  split at hx
  · split at hx
    · simp at hx; subst hx; exact hm
    · simp at hx
  · exact h k x hx
theorem zMs_sm {q : Qv} {d : List Int} (h : ArrP q d) : SmM (zMs q d q.2.1.length) := fun j m hm => by
  have hj : j < q.2.1.length := by
    have := (List.getElem?_eq_some_iff.1 hm).1
    simpa using this
  obtain ⟨f, t, dt, df, _, _, _, _, _, _, h1, h2, h3⟩ := h.at hj
  have : m = zM q d j := by
    simp [zMs, hj] at hm; exact hm.symm
  rw [this, h3]
  exact ⟨dt, df, rfl, rfl, h1, h2⟩
structure RepQ (q : Qv) (p : Int) (r : Rp) : Prop where
  ep : r.p = p
  eq : r.q = q
  ed : DimsP q r.d
  em : r.m.length = q.2.1.length
theorem bld_rp2 (p r : Int) (a0 a1 : Option Addr) (m0 c0 m1 c1 : Nat) (w : World) : (Instr.build 60 #[(0, iV p), (1, .agg #[iV r, .slice a0 m0 c0, .slice a1 m1 c1])]).run Tryz.prog w = .ok (.agg #[iV p, iV r, .slice a0 m0 c0, .slice a1 m1 c1, .slice none 0 0, .slice none 0 0]) w := by kernel_rfl
def OfG (p : Int) (q : Qv) (u0 u1 : Value) (v : Value) (H : List HE) : Prop := (∃ r, RepQ q p r ∧ GivesR r v H) ∨ (¬ QuivP q ∧ v = .agg #[iV p, iV q.1, u0, u1, .slice none 0 0, .slice none 0 0] ∧ H = [])
theorem l8Of_ok {w1 : World} {M1 : List Nat} {H1 : List HE} {w : World} {M' : List Nat} {u : Value} {b i : Nat} {h : Int} {q : Qv} {u0 u1 : Value} (p : Int) (most : Nat) (hm : most ≤ 2) (hl : Lent M1 w1 (cu u b i h) H1 M' w) (hc : CodeF w1 M1 u) (hi : i ≤ vlen u) (h0 : RdOut w M' (iT q.2.1) u0) (h1 : RdOut w M' (iT q.2.2) u1) :
    DoesB Tryz.prog 189 [cuV b, iV p, .agg #[iV q.1, u0, u1], iV most] w M' (Gcu u b (OfG p q u0 u1)) := by
  have hc2 := lent_code hl hc
  have h0' := h0
  have h1' := h1
  obtain ⟨a0, c0, rfl, hs0, hg0⟩ := h0'.intsO
  obtain ⟨a1, c1, rfl, hs1, hg1⟩ := h1'.intsO
  refine fnb_lent Tryz.func189 rfl Tryz.ntmps189 rfl hl ?_
  repeat' (first | (show oL; first | refine sMv rfl rfl ?_ | refine sLb 1 tabs rfl rfl rfl rfl rfl ?_ | (show oA (.unOp _ _ _); refine st_y (y_notd rfl) rfl ?_) | (show oA (.call _); (refine m_call (ent_of Tryz.func264 kr rfl) rfl rfl (fun w c => spec_IsQuiver_ok (q := q) (h0.rd c) (h1.rd c)) ?_; rintro v H' ⟨rfl, rfl⟩)) | (show oA (.store _ _ _); refine m_storeb 0 tabs rfl rfl rfl rfl rfl rfl rfl ?_) | (show oA (.box _ _); refine m_box rfl rfl (fun b4 hb4 => ?_)) | (show oA (.alloc _); refine m_alloc tabs rfl rfl (fun b8 hb8 => ?_)) | (show oA (.build _ _); refine st_y (y_bld2 (bld_rp2 _ _ _ _ _ _ _ _) rfl rfl) rfl ?_)) | refine xNt ?_ | (show oC; first | refine c_seq ?_ | refine c_region ?_ | refine c_skip (x_then ?_) | refine c_ret ?_ | refine c_ifnd rfl (fun h => ?_) (fun h => ?_)) | (show AT _ _ _ _; refine x_then_ret ?_))
  · exact x_ret1 Tryz.results189 (res_cellb 0 tabs rfl rfl rfl rfl) (fun wz cz => ⟨_, _, rfl, ⟨i, _, [], hi, rfl, .inr ⟨h, rfl, rfl⟩⟩, cz.sub (.cons _ (.cons _ (.cons_cons _ (List.nil_sublist _))))⟩)
  · have hQ : QuivP q := h
    refine c_all (Hp M' w [.blk b4 #[iV q.1, .slice a0 q.2.1.length c0, .slice a1 q.2.2.length c1] 57]) kr (fun _ c => Hp.drew c) ?_
    refine fl_begin 7 rfl tabs rfl rfl ?_
    refine fl_take 0 rfl kr kr kr kr kr kr (by exact y_move rfl) rfl sS ?_
    refine fl_take 1 rfl kr kr kr kr kr kr (by exact y_loadb 0 tabs rfl rfl rfl rfl) rfl sS ?_
    refine fl_take 2 rfl kr kr kr kr kr kr (by exact y_move rfl) rfl sS ?_
    refine fl_take 3 rfl kr kr kr kr kr kr (by exact y_loadb 0 tabs rfl rfl rfl rfl) rfl sS ?_
    refine fl_take 4 rfl kr kr kr kr kr kr (by exact y_move rfl) rfl sS ?_
    refine fl_step 5 rfl rfl rfl tabs rfl rfl rfl kr kr kr (stp_callL 2 (ent_of Tryz.func265 kr rfl) rfl rfl rfl (fun E w M' hl => l8Dims_ok most om hl hc2 hi)) (fun w' c' => c'.sub (.cons _ (.cons_cons _ (List.nil_sublist _)))) (by rintro v H1 ⟨H0, ⟨i, ch, _, hi, rfl, ds, a, c, rfl, hds, hin, hsum, rfl⟩, rfl⟩ w' c'; exact c'.sub (.cons _ (.cons _ (.cons _ (.cons_cons _ (List.nil_sublist _)))))) ?_
    rintro v H1 ⟨H0, ⟨i, ch, _, hi, rfl, ds, a, c, rfl, hds, hin, hsum, rfl⟩, rfl⟩
    have hD : DimsP q ds := ⟨hQ, by have := hQ.1; omega, fun x hx => by have := hin x hx; omega, hsum⟩
    refine fl_step 6 rfl rfl rfl tabs rfl rfl rfl kr kr kr (stf_call (ent_of Tryz.func198 kr rfl) rfl rfl (fun w c => l8Zero_ok (p := p) (q := q) (d := ds) (h0.rd c) (h1.rd c) (c.own_rd (i := 1) rfl) hD.arr)).stp (fun w' c' => c'.sub (.cons _ (.cons _ (.cons _ (.cons_cons _ (List.nil_sublist _)))))) (by rintro v H1 ⟨H0, ⟨aF, cF, aT, cT, ad, cd, am, cm, rfl, hsF, hsT, hsd, hsm, rfl⟩, rfl⟩ w' c'; exact c'.sub (.cons _ (.cons _ (.cons _ (.cons _ (.cons _ (.cons _ (.cons _ (.cons_cons _ (List.nil_sublist _)))))))))) ?_
    rintro v H1 ⟨H0, ⟨aF, cF, aT, cT, ad, cd, am, cm, rfl, hsF, hsT, hsd, hsm, rfl⟩, rfl⟩
    refine fl_end rfl tabs rfl rfl rfl kr sS (fun bf hbf => ?_)
    refine h_only 8 rfl kr ?_
    first | (refine m_storeb 0 tabs rfl rfl rfl rfl rfl rfl rfl ?_) | (refine m_storeb 0 tabs rfl rfl rfl rfl rfl rfl rfl ?_)
    refine c_nil (x_one (h_keep sS ?_))
    refine h_end kr ?_
    repeat' (first | (show oL; first | refine sAs rfl rfl ?_) | refine xNt ?_ | (show oC; first | refine c_seq ?_ | refine c_region ?_ | refine c_block ?_) | (show AT _ _ _ _; refine x_then ?_))
    have hzl : (zMs q ds q.2.1.length).length = q.2.1.length := by simp
    simp only [zeroR, hzl] at hsF hsT hsd hsm ⊢
    refine c_loopH (α := List Mat × Nat × Nat × Int) [0, 1, 8, 9] (fun s => [(10, iV s.2.1)]) (fun s => (s.1.length = q.2.1.length ∧ s.2.1 ≤ q.2.1.length) ∧ SmM s.1 ∧ s.2.2.1 ≤ vlen u) (fun s => [.own (matsT 47 s.1) (.slice am q.2.1.length cm), cu u b s.2.2.1 s.2.2.2, .blk bf #[iV p, iV q.1, .slice aF q.2.1.length cF, .slice aT q.2.2.length cT, .slice ad ds.length cd, .slice am q.2.1.length cm] 60, .own (iT ds) (.slice ad ds.length cd), .own (iT q.2.2) (.slice aT q.2.2.length cT), .own (iT q.2.1) (.slice aF q.2.1.length cF), .blk b8 #[iV 0, iV 0, .slice none 0 0, .slice none 0 0, .slice none 0 0, .slice none 0 0] 60]) (fun s => q.2.1.length - s.2.1) (zMs q ds q.2.1.length, 0, i, ch) rfl sB ?_ ?_ ?_
    · exact ⟨⟨hzl, Nat.zero_le _⟩, zMs_sm hD.arr, hi⟩
    · intro w' c'
      exact ((c'.front (i := 5) rfl).front (i := 2) rfl).sub (.cons_cons _ (.cons_cons _ (.cons_cons _ (.cons_cons _ (.cons_cons _ (.cons_cons _ (.cons _ (.cons_cons _ (List.nil_sublist _)))))))))
    · rintro ⟨ms, k, i, ch⟩ ⟨⟨hml, hk⟩, hsm2, hi⟩
      simp only at hml hk hsm2 hi ⊢
      have hq6 := hQ.2.1
      by_cases hin2 : k < q.2.1.length
      · obtain ⟨z, hz⟩ : ∃ z, ms[k]? = some z := ⟨_, List.getElem?_eq_getElem om⟩
        obtain ⟨R, C, e1, e2, hR, hC⟩ := hsm2 k z hz
        repeat' (first | (show oL; first | refine sMv rfl rfl ?_ | refine sFd tabs rfl rfl rfl rfl ?_ | refine sLd 2 tabs rfl rfl rfl rfl rfl ?_ | refine sLs rfl rfl rfl ?_ | refine sLn tabs rfl rfl rfl ?_) | refine xNt ?_ | (show oC; first | refine c_seq ?_ | refine c_region ?_ | refine c_skip (x_then ?_) | refine c_block ?_ | refine c_ift rfl aO ?_))
        refine c_mixR (Hp M' w [.own (matsT 47 ms) (.slice am q.2.1.length cm), .blk bf #[iV p, iV q.1, .slice aF q.2.1.length cF, .slice aT q.2.2.length cT, .slice ad ds.length cd, .slice am q.2.1.length cm] 60]) 18 kr kr kr kr kr (fun _ c => Hp.drew c) ?_
        refine h_take 0 rfl kr kr kr (by exact y_field tabs rfl rfl rfl) rfl sS ?_
        refine h_take 1 rfl kr kr kr (by exact y_load tabs rfl rfl (hc_blk 1 rfl rfl)) rfl sS ?_
        refine h_take 2 rfl kr kr kr (by exact y_move rfl) rfl sS ?_
        refine h_take 3 rfl kr kr kr (by exact y_move rfl) rfl sS ?_
        refine h_take 4 rfl kr kr kr (by exact y_move rfl) rfl sS ?_
        refine h_take 5 rfl kr kr kr (by exact y_field tabs rfl rfl rfl) rfl sS ?_
        refine h_take 6 rfl kr kr kr (by exact y_load tabs rfl rfl (hc_blk 1 rfl rfl)) rfl sS ?_
        refine h_take 7 rfl kr kr kr (by exact y_move rfl) rfl sS ?_
        refine h_take 8 rfl kr kr kr (by exact y_ixa tabs rfl rfl rfl hsm om om) rfl sS ?_
        refine h_take 9 rfl kr kr kr (by exact y_field tabs rfl rfl rfl) rfl sS ?_
        refine h_take 10 rfl kr kr kr (by exact y_load tabs rfl rfl (hc_mr0 0 rfl hz e1)) rfl sS ?_
        refine h_take 11 rfl kr kr kr (by exact y_field tabs rfl rfl rfl) rfl sS ?_
        refine h_take 12 rfl kr kr kr (by exact y_load tabs rfl rfl (hc_blk 1 rfl rfl)) rfl sS ?_
        refine h_take 13 rfl kr kr kr (by exact y_move rfl) rfl sS ?_
        refine h_take 14 rfl kr kr kr (by exact y_ixa tabs rfl rfl rfl hsm om om) rfl sS ?_
        refine h_take 15 rfl kr kr kr (by exact y_field tabs rfl rfl rfl) rfl sS ?_
        refine h_take 16 rfl kr kr kr (by exact y_load tabs rfl rfl (hc_mr1 0 rfl hz e2)) rfl sS ?_
        refine h_only 17 rfl kr ?_
        (refine m_callL 1 (ent_of Tryz.func239 kr rfl) rfl rfl rfl (fun w M' hl => l3Random_ok p (R := R) (C := C) hl hc2 hi hR hC) ?_; rintro v H' ⟨i, ch, _, hi, rfl, xs, ax, cx, rfl, hx, rfl⟩)
        refine c_nil (x_one (h_keep sS ?_))
        refine h_end kr ?_
        repeat' (first | (show oL; first | refine sMv rfl rfl ?_ | refine sAs rfl rfl ?_ | (show oA (.indexAddr _ _ _); refine st_y (y_ixa tabs rfl rfl rfl hsm om om) rfl ?_) | refine sAd rfl rfl om rfl ?_ | (show oA (.store _ _ _); refine m_storeT tabs (m := q.2.1.length) (tn := matT ((R : Int), (C : Int), xs)) (j := k) rfl rfl rfl rfl rfl rfl (by decide) (by rw [flatMap_length matT_length, hml]) hin2 (fun w c => ((c.front (i := 1) rfl).mat (u0 := iV (R : Int)) (u1 := iV (C : Int))).front (i := 2) rfl) ?_)) | (show oN; first | refine c_nil (x_then ?_) | refine c_nil ?_) | (show oC; refine c_region ?_) | (show AT _ _ _ _; first | refine x_then ?_ | refine x_blk ?_))
        refine x_nx (ms.set k ((R : Int), (C : Int), xs), k + 1, i, ch) sB ⟨⟨by simp only [List.length_set]; exact hml, by simp only; omega⟩, smM_set hsm2 ⟨R, C, rfl, rfl, hR, hC⟩, hi⟩ (fun w' c' => ?_) (by simp only; omega)
        rw [flatMap_set matT_length _ _ _ om] at c'
        exact c'
      · have : k = q.2.1.length := by omega
        subst this
        repeat' (first | (show oL; first | refine sMv rfl rfl ?_ | refine sFd tabs rfl rfl rfl rfl ?_ | (show oA (.load _ _); first | refine sLd 2 tabs rfl rfl rfl rfl rfl ?_ | refine sLb 2 tabs rfl rfl rfl rfl rfl ?_) | refine sLs rfl rfl rfl ?_ | refine sLn tabs rfl rfl rfl ?_ | (show oA (.store _ _ _); refine m_storeb 6 tabs rfl rfl rfl rfl rfl rfl rfl ?_)) | refine xNt ?_ | (show oC; first | refine c_seq ?_ | refine c_region ?_ | refine c_ret ?_ | refine c_exit ?_ | refine c_iff rfl nN ?_) | (show AT _ _ _ _; first | refine x_then ?_ | refine x_then_exit ?_ | refine x_blk_exit rfl ?_))
        exact x_ret1 Tryz.results189 (res_cellb 6 tabs rfl rfl rfl rfl) (fun wz cz => ⟨_, _, rfl, ⟨i, ch, _, hi, rfl, .inl ⟨⟨p, q, ds, ms⟩, ⟨rfl, rfl, hD, hml⟩, aF, cF, aT, cT, ad, cd, am, cm, by simp only [hml], hsF, hsT, hsd, by simp only [hml]; exact hsm, by simp only [hml]⟩⟩, (cz.swap.sub (.cons_cons _ (.cons_cons _ (.cons _ (.cons_cons _ (.cons_cons _ (.cons_cons _ (List.nil_sublist _))))))))⟩)
end Go.Proofs.YtijjkfbkihgfgaaGreat

namespace Go.Proofs.YtijjkfbkihgfgaaGreat
open Go.Lg Go.Proofs Go.RowKit
attribute [local irreducible] Code.wp wpList bodyPost Exit.then Exit.inBlock Hp Again Calls Y AT ResV QT Qn QI wpAny wpAnyQ
set_option maxRecDepth 20000
set_option maxHeartbeats 4000000

theorem l8Prime_ok {w1 : World} {M1 : List Nat} {H1 : List HE} {w : World} {M' : List Nat} {u : Value} {b i : Nat} {h : Int} (hl : Lent M1 w1 (cu u b i h) H1 M' w) (hc : CodeF w1 M1 u) (hi : i ≤ vlen u) :
    DoesB Tryz.prog 187 [cuV b] w M' (Gcu u b (fun v H => ∃ x : Int, v = iV x ∧ (x = 2 ∨ x = 3) ∧ H = [])) := by
  have hc2 := lent_code hl hc
  refine fnb_lent Tryz.func187 rfl Tryz.ntmps187 rfl hl ?_
  repeat' (first | (show oL; first | refine sMv rfl rfl ?_ | refine sAs rfl rfl ?_ | (show oA (.call _); (refine m_callL 1 (ent_of Tryz.func119 kr rfl) rfl rfl rfl (fun w M' hl => l1PickInt_ok hl hc2 hi (hl.own 0 rfl) (by decide)) ?_; rintro v H' ⟨i, h, _, hi, rfl, x, rfl, hx, rfl⟩)) | (show oA (.buildSlice _ _ _); refine m_buildi tabs [2, 3, 2] rfl rfl rfl rfl rfl rfl rfl (fun g hg => ?_))) | refine xNt ?_ | (show oC; first | refine c_seq ?_ | refine c_region ?_ | refine c_ret ?_))
  exact x_ret1 Tryz.results187 (res_tmp rfl) (fun w' c' => ⟨_, _, rfl, ⟨i, _, [], hi, rfl, _, rfl, by simp at hx; omega, rfl⟩, c'.sub (.cons_cons _ (List.nil_sublist _))⟩)
structure BndR (r : Rp) : Prop where
  f : r.q.2.1.length ≤ 7
  t : r.q.2.2.length ≤ 7
  d : r.d.length ≤ 7
  m : r.m.length ≤ 7
theorem RepQ.bnd {q : Qv} {p : Int} {r : Rp} (h : RepQ q p r) : BndR r := by
  have hQ := h.ed.1
  refine ⟨by rw [h.eq]; have := hQ.2.1; omega, by rw [h.eq]; have := hQ.2.1; have := hQ.2.2.1; omega, by have := h.ed.2.1; have := hQ.1; omega, by rw [h.em]; have := hQ.2.1; omega⟩
theorem OfG.all {p : Int} {q : Qv} {a a' : Option Addr} {c c' : Nat} {v : Value} {H : List HE} (h : OfG p q (.slice a q.2.1.length c) (.slice a' q.2.2.length c') v H) (hs : SA a q.2.1.length) (hs' : SA a' q.2.2.length) (hB : QivB q) :
    ∃ r a0 c0 a1 c1 a2 c2 a3 c3, v = .agg #[iV r.p, iV r.q.1, .slice a0 r.q.2.1.length c0, .slice a1 r.q.2.2.length c1, .slice a2 r.d.length c2, .slice a3 r.m.length c3] ∧ (SA a0 r.q.2.1.length ∧ SA a1 r.q.2.2.length ∧ SA a2 r.d.length ∧ SA a3 r.m.length) ∧ BndR r ∧ (r.p = p ∧ r.d.length ≤ 5) ∧
      ∀ (M : List Nat) (w0 w : World) (x y : HE) (HX : List HE), Hp M w0 (x :: H ++ (y :: .own (iT q.2.2) (.slice a' q.2.2.length c') :: .own (iT q.2.1) (.slice a q.2.1.length c) :: HX)) w →
        Hp M w0 (.own (matsT 47 r.m) (.slice a3 r.m.length c3) :: .own (iT r.d) (.slice a2 r.d.length c2) :: .own (iT r.q.2.2) (.slice a1 r.q.2.2.length c1) :: .own (iT r.q.2.1) (.slice a0 r.q.2.1.length c0) :: x :: y :: HX) w := by
  rcases h with ⟨r, hr, a0, c0, a1, c1, a2, c2, a3, c3, rfl, h0, h1, h2, h3, rfl⟩ | ⟨_, rfl, rfl⟩
  · exact ⟨r, a0, c0, a1, c1, a2, c2, a3, c3, rfl, ⟨h0, h1, h2, h3⟩, hr.bnd, ⟨hr.ep, by have := hr.ed.2.1; have := hr.ed.1.1; omega⟩, fun M w0 w x y HX c => ((((c.front (i := 4) rfl).front (i := 4) rfl).front (i := 4) rfl).front (i := 4) rfl).sub (.cons_cons _ (.cons_cons _ (.cons_cons _ (.cons_cons _ (.cons_cons _ (.cons_cons _ (.cons _ (.cons _ (List.Sublist.refl _)))))))))⟩
  · exact ⟨⟨p, q, [], []⟩, a, c, a', c', none, 0, none, 0, rfl, ⟨hs, hs', .inl rfl, .inl rfl⟩, ⟨hB.1, hB.2.1, by simp, by simp⟩, ⟨rfl, by simp⟩, fun M w0 w x y HX c => Hp.nilp _ _ (Hp.nilp _ _ ((c.front (i := 3) rfl).front (i := 3) rfl))⟩
def GivesRp (φ : Rp → Prop) (v : Value) (H : List HE) : Prop := ∃ r, φ r ∧ GivesR r v H
theorem l8Any_ok {w1 : World} {M1 : List Nat} {H1 : List HE} {w : World} {M' : List Nat} {u : Value} {b i : Nat} {h : Int} (hl : Lent M1 w1 (cu u b i h) H1 M' w) (hc : CodeF w1 M1 u) (hi : i ≤ vlen u) :
    DoesB Tryz.prog 168 [cuV b] w M' (Gcu u b (GivesRp BndR)) := by
  have hc2 := lent_code hl hc
  have tok0 : True := trivial
  have tok1 : True := trivial
  refine fnb_lent Tryz.func168 rfl Tryz.ntmps168 rfl hl ?_
  repeat' (first | (show oL; first | refine sMv rfl rfl ?_ | refine sAs rfl rfl ?_ | refine sFd tabs rfl rfl rfl rfl ?_ | (show oA (.load _ _); first | refine sLd 1 tabs rfl rfl rfl rfl rfl ?_ | refine sLb 0 tabs rfl rfl rfl rfl rfl ?_ | refine sLb 1 tabs rfl rfl rfl rfl rfl ?_) | (show oA (.binOp _ _ _ _ _); first | refine st_y (y_gtr rfl rfl) rfl ?_ | refine st_y (y_eql rfl rfl) rfl ?_) | (show oA (.call _); first | (refine m_callL 1 (ent_of Tryz.func125 kr rfl) rfl rfl rfl (fun w M' hl => l2Prime_ok hl hc2 hi) ?_; rintro v H' ⟨i, h, _, hi, rfl, p, rfl, hp, rfl⟩) | (refine m_callL 0 (ent_of Tryz.func256 kr rfl) rfl rfl rfl (fun w M' hl => l6Any_ok hl hc2 hi) ?_; rintro v H' ⟨i, h, _, hi, rfl, q, a, c, a', c', rfl, hq, rfl⟩; refine AT.fact (own_sl 1 rfl) (fun hsT => ?_); obtain ⟨_, _, eT, hsT⟩ := hsT; cases eT; refine AT.fact (own_sl 2 rfl) (fun hsF => ?_); obtain ⟨_, _, eF, hsF⟩ := hsF; cases eF) | (refine m_callL 1 (ent_of Tryz.func189 kr rfl) rfl rfl rfl (fun w M' hl => l8Of_ok (q := q) p 2 (by decide) hl hc2 hi (hl.own 2 rfl) (hl.own 1 rfl)) ?_; rintro v H' ⟨i, h, H0, hi, rfl, hO⟩; obtain ⟨r, a0, c0, a1, c1, a2, c2, a3, c3, rfl, ⟨s0, s1, s2, s3⟩, hB, ⟨hrp, hd5⟩, hcl⟩ := hO.all hsF hsT hq; refine AT.cls (fun w cz => hcl _ _ _ _ _ _ cz) ?_) | (refine m_callL 5 (ent_of Tryz.func120 kr rfl) rfl rfl rfl (fun w M' hl => l1BelowN_ok 14 (by decide) hl hc2 hi) ?_; rintro v H' ⟨i, ch, _, hi, rfl, k, rfl, hk, rfl⟩) | refine sLn tabs rfl rfl rfl ?_) | (show oA (.store _ _ _); refine m_storeb 0 tabs rfl rfl rfl rfl rfl rfl rfl ?_) | (show oA (.alloc _); first | (have _t := tok0; refine m_alloc tabs rfl rfl (fun b0 hb0 => ?_); clear _t tok0) | (have _t := tok1; refine m_alloc tabs rfl rfl (fun bq hbq => ?_); clear _t tok1) | refine m_alloc tabs rfl rfl (fun b2 hb2 => ?_))) | refine xNt ?_ | (show oC; first | refine c_seq ?_ | refine c_region ?_ | refine c_skip (x_blk ?_) | refine c_block ?_ | refine c_if rfl (fun h => ?_) (fun h => ?_)) | (show AT _ _ _ _; refine x_then ?_))
  · skip
    refine AT.cls (C' := Hp _ _ [cu u b i ch, .blk b2 #[iV r.p, iV r.q.1, .slice a0 r.q.2.1.length c0, .slice a1 r.q.2.2.length c1, .slice a2 r.d.length c2, .slice a3 r.m.length c3] 60, .own (matsT 47 r.m) (.slice a3 r.m.length c3), .own (iT r.d) (.slice a2 r.d.length c2), .own (iT r.q.2.2) (.slice a1 r.q.2.2.length c1), .own (iT r.q.2.1) (.slice a0 r.q.2.1.length c0), .blk b0 #[iV 0, iV 0, .slice none 0 0, .slice none 0 0, .slice none 0 0, .slice none 0 0] 60]) (fun w' c' => c'.sub sL) ?_
    repeat' (first | (show oL; first | refine sFd tabs rfl rfl rfl rfl ?_ | refine sLb 2 tabs rfl rfl rfl rfl rfl ?_ | (show oA (.call _); refine m_pushi 3 tabs rfl rfl rfl rfl rfl om (fun a6 c6 => ?_)) | (show oA (.store _ _ _); first | refine m_storef 2 tabs rfl rfl rfl rfl rfl rfl ?_ | refine m_storeb 6 tabs rfl rfl rfl rfl rfl rfl rfl ?_) | (show oA (.buildSlice _ _ _); refine m_build1 tabs (us := [iV 1]) rfl rfl rfl rfl (by decide) rfl (fun g6 hg6 => ?_))) | (show oN; first | refine c_nil (x_then ?_) | refine c_nil ?_) | (show oC; first | refine c_seq ?_ | refine c_region ?_ | refine c_ret ?_) | (show AT _ _ _ _; first | refine x_then ?_ | refine x_blk ?_))
    refine AT.fact (own_sl 0 rfl) (fun hs6 => ?_)
    obtain ⟨_, _, e6, hs6⟩ := hs6
    injection e6 with k6
    rw [← k6] at hs6
    exact x_ret1 Tryz.results168 (res_cellb 6 tabs rfl rfl rfl rfl) (fun wz cz => ⟨_, _, rfl, ⟨i, ch, _, hi, rfl, ⟨r.p, r.q, r.d ++ [1], r.m⟩, ⟨hB.f, hB.t, by simp only [List.length_append, List.length_singleton]; omega, hB.m⟩, a0, c0, a1, c1, a6, c6, a3, c3, by simp only [List.length_append, List.length_singleton]; rfl, s0, s1, hs6, s3, rfl⟩, by
      simp only [List.length_append, List.length_singleton]
      exact (cz.swap.front (i := 3) rfl).swap.sub (.cons_cons _ (.cons_cons _ (.cons_cons _ (.cons _ (.cons_cons _ (.cons_cons _ (List.nil_sublist _)))))))⟩)
  · skip
    refine AT.cls (C' := Hp _ _ [cu u b i ch, .blk b2 #[iV r.p, iV r.q.1, .slice a0 r.q.2.1.length c0, .slice a1 r.q.2.2.length c1, .slice a2 r.d.length c2, .slice a3 r.m.length c3] 60, .own (matsT 47 r.m) (.slice a3 r.m.length c3), .own (iT r.d) (.slice a2 r.d.length c2), .own (iT r.q.2.2) (.slice a1 r.q.2.2.length c1), .own (iT r.q.2.1) (.slice a0 r.q.2.1.length c0), .blk b0 #[iV 0, iV 0, .slice none 0 0, .slice none 0 0, .slice none 0 0, .slice none 0 0] 60]) (fun w' c' => c'.sub sL) ?_
    refine c_mixR (Hp M' w [.blk b2 #[iV r.p, iV r.q.1, .slice a0 r.q.2.1.length c0, .slice a1 r.q.2.2.length c1, .slice a2 r.d.length c2, .slice a3 r.m.length c3] 60]) 5 kr kr kr kr kr (fun _ c => Hp.drew c) ?_
    refine h_take 0 rfl kr kr kr (by exact y_field tabs rfl rfl rfl) rfl sS ?_
    refine h_take 1 rfl kr kr kr (by exact y_load tabs rfl rfl (hc_blk 0 rfl rfl)) rfl sS ?_
    refine h_take 2 rfl kr kr kr (by exact y_move rfl) rfl sS ?_
    refine h_take 3 rfl kr kr kr (by exact y_move rfl) rfl sS ?_
    refine h_only 4 rfl kr ?_
    (refine m_callL 0 (ent_of Tryz.func131 kr rfl) rfl rfl rfl (fun w M' hl => l3Any_ok p hl hc2 hi) ?_; rintro v H' ⟨i, ch, _, hi, rfl, m, a5, c5, rfl, hm, rfl⟩)
    refine c_nil (x_one (h_keep sS ?_))
    refine h_end kr ?_
    repeat' (first | (show oL; first | refine sLb 2 tabs rfl rfl rfl rfl rfl ?_ | (show oA (.indexAddr _ _ _); refine st_y (y_ixa tabs rfl rfl rfl s3 om om) rfl ?_) | (show oA (.store _ _ _); first | refine m_storeT tabs (m := r.m.length) (tn := matT m) (j := 0) rfl rfl rfl rfl rfl rfl (by decide) (by rw [flatMap_length matT_length]) om (fun w c => ((c.front (i := 1) rfl).mat (u0 := iV m.1) (u1 := iV m.2.1)).front (i := 3) rfl) ?_ | refine m_storeb 6 tabs rfl rfl rfl rfl rfl rfl rfl ?_)) | (show oN; first | refine c_nil (x_then ?_) | refine c_nil ?_) | (show oC; first | refine c_seq ?_ | refine c_region ?_ | refine c_ret ?_) | (show AT _ _ _ _; first | refine x_then ?_ | refine x_blk ?_))
    exact x_ret1 Tryz.results168 (res_cellb 6 tabs rfl rfl rfl rfl) (fun wz cz => ⟨_, _, rfl, ⟨i, ch, _, hi, rfl, ⟨r.p, r.q, r.d, r.m.set 0 m⟩, ⟨hB.f, hB.t, hB.d, by simp only [List.length_set]; exact hB.m⟩, a0, c0, a1, c1, a2, c2, a3, c3, by simp only [List.length_set], s0, s1, s2, by simp only [List.length_set]; exact s3, rfl⟩, by
      simp only [List.length_set]
      rw [flatMap_set matT_length _ _ _ om] at cz
      exact cz.swap.sub (.cons_cons _ (.cons_cons _ (.cons _ (.cons_cons _ (.cons_cons _ (.cons_cons _ (List.nil_sublist _)))))))⟩)
  · skip
    refine AT.cls (C' := Hp _ _ [cu u b i ch, .blk b2 #[iV r.p, iV r.q.1, .slice a0 r.q.2.1.length c0, .slice a1 r.q.2.2.length c1, .slice a2 r.d.length c2, .slice a3 r.m.length c3] 60, .own (matsT 47 r.m) (.slice a3 r.m.length c3), .own (iT r.d) (.slice a2 r.d.length c2), .own (iT r.q.2.2) (.slice a1 r.q.2.2.length c1), .own (iT r.q.2.1) (.slice a0 r.q.2.1.length c0), .blk b0 #[iV 0, iV 0, .slice none 0 0, .slice none 0 0, .slice none 0 0, .slice none 0 0] 60]) (fun w' c' => c'.sub sL) ?_
    repeat' (first | (show oL; first | (show oA (.store _ _ _); refine m_storeb 6 tabs rfl rfl rfl rfl rfl rfl rfl ?_)) | refine xNt ?_ | (show oC; refine c_ret ?_))
    exact x_ret1 Tryz.results168 (res_cellb 6 tabs rfl rfl rfl rfl) (fun wz cz => ⟨_, _, rfl, ⟨i, ch, _, hi, rfl, r, hB, a0, c0, a1, c1, a2, c2, a3, c3, rfl, s0, s1, s2, s3, rfl⟩, cz.sub (.cons_cons _ (.cons _ (.cons_cons _ (.cons_cons _ (.cons_cons _ (.cons_cons _ (List.nil_sublist _)))))))⟩)
  · skip
    refine AT.cls (C' := Hp _ _ [cu u b i ch, .blk b2 #[iV r.p, iV r.q.1, .slice a0 r.q.2.1.length c0, .slice a1 r.q.2.2.length c1, .slice a2 r.d.length c2, .slice a3 r.m.length c3] 60, .own (matsT 47 r.m) (.slice a3 r.m.length c3), .own (iT r.d) (.slice a2 r.d.length c2), .own (iT r.q.2.2) (.slice a1 r.q.2.2.length c1), .own (iT r.q.2.1) (.slice a0 r.q.2.1.length c0), .blk b0 #[iV 0, iV 0, .slice none 0 0, .slice none 0 0, .slice none 0 0, .slice none 0 0] 60]) (fun w' c' => c'.sub sL) ?_
    refine c_mixR (Hp M' w [.blk b2 #[iV r.p, iV r.q.1, .slice a0 r.q.2.1.length c0, .slice a1 r.q.2.2.length c1, .slice a2 r.d.length c2, .slice a3 r.m.length c3] 60]) 5 kr kr kr kr kr (fun _ c => Hp.drew c) ?_
    refine h_take 0 rfl kr kr kr (by exact y_field tabs rfl rfl rfl) rfl sS ?_
    refine h_take 1 rfl kr kr kr (by exact y_load tabs rfl rfl (hc_blk 0 rfl rfl)) rfl sS ?_
    refine h_take 2 rfl kr kr kr (by exact y_move rfl) rfl sS ?_
    refine h_only 3 rfl kr ?_
    first | (refine m_buildi tabs [-1, 5, 0] rfl rfl rfl rfl rfl rfl rfl (fun g hg => ?_)) | (refine m_callL 1 (ent_of Tryz.func119 kr rfl) rfl rfl rfl (fun w M' hl => l1PickInt_ok hl hc2 hi (hl.own 0 rfl) (by decide)) ?_; rintro v H' ⟨i, ch, _, hi, rfl, y, rfl, hy, rfl⟩)
    refine c_nil (x_one (h_keep sS ?_))
    refine h_only 4 rfl kr ?_
    first | (refine m_buildi tabs [-1, 5, 0] rfl rfl rfl rfl rfl rfl rfl (fun g hg => ?_)) | (refine m_callL 1 (ent_of Tryz.func119 kr rfl) rfl rfl rfl (fun w M' hl => l1PickInt_ok hl hc2 hi (hl.own 0 rfl) (by decide)) ?_; rintro v H' ⟨i, ch, _, hi, rfl, y, rfl, hy, rfl⟩)
    refine c_nil (x_one (h_keep sS ?_))
    refine h_end kr ?_
    repeat' (first | (show oL; first | refine sLb 2 tabs rfl rfl rfl rfl rfl ?_ | (show oA (.indexAddr _ _ _); refine st_y (y_ix1 tabs (j := 0) rfl rfl rfl s2 rfl om) rfl ?_) | (show oA (.store _ _ _); first | refine m_storeo 4 (j := 0) tabs rfl rfl rfl rfl om ?_ | refine m_storeb 7 tabs rfl rfl rfl rfl rfl rfl rfl ?_)) | (show oN; first | refine c_nil (x_then ?_) | refine c_nil ?_) | (show oC; first | refine c_seq ?_ | refine c_region ?_ | refine c_ret ?_) | (show AT _ _ _ _; first | refine x_then ?_ | refine x_blk ?_))
    exact x_ret1 Tryz.results168 (res_cellb 7 tabs rfl rfl rfl rfl) (fun wz cz => ⟨_, _, rfl, ⟨i, ch, _, hi, rfl, ⟨r.p, r.q, r.d.set 0 y, r.m⟩, ⟨hB.f, hB.t, by simp only [List.length_set]; exact hB.d, hB.m⟩, a0, c0, a1, c1, a2, c2, a3, c3, by simp only [List.length_set], s0, s1, by simp only [List.length_set]; exact s2, s3, rfl⟩, by
      simp only [List.length_set]
      exact cz.sub (.cons_cons _ (.cons _ (.cons _ (.cons_cons _ (.cons_cons _ (.cons_cons _ (.cons_cons _ (List.nil_sublist _))))))))⟩)
  · skip
    refine AT.cls (C' := Hp _ _ [cu u b i ch, .blk b2 #[iV r.p, iV r.q.1, .slice a0 r.q.2.1.length c0, .slice a1 r.q.2.2.length c1, .slice a2 r.d.length c2, .slice a3 r.m.length c3] 60, .own (matsT 47 r.m) (.slice a3 r.m.length c3), .own (iT r.d) (.slice a2 r.d.length c2), .own (iT r.q.2.2) (.slice a1 r.q.2.2.length c1), .own (iT r.q.2.1) (.slice a0 r.q.2.1.length c0), .blk b0 #[iV 0, iV 0, .slice none 0 0, .slice none 0 0, .slice none 0 0, .slice none 0 0] 60]) (fun w' c' => c'.sub sL) ?_
    repeat' (first | (show oL; first | (show oA (.store _ _ _); refine m_storeb 6 tabs rfl rfl rfl rfl rfl rfl rfl ?_)) | refine xNt ?_ | (show oC; refine c_ret ?_))
    exact x_ret1 Tryz.results168 (res_cellb 6 tabs rfl rfl rfl rfl) (fun wz cz => ⟨_, _, rfl, ⟨i, ch, _, hi, rfl, r, hB, a0, c0, a1, c1, a2, c2, a3, c3, rfl, s0, s1, s2, s3, rfl⟩, cz.sub (.cons_cons _ (.cons _ (.cons_cons _ (.cons_cons _ (.cons_cons _ (.cons_cons _ (List.nil_sublist _)))))))⟩)
  · skip
    refine AT.cls (C' := Hp _ _ [cu u b i ch, .blk b2 #[iV r.p, iV r.q.1, .slice a0 r.q.2.1.length c0, .slice a1 r.q.2.2.length c1, .slice a2 r.d.length c2, .slice a3 r.m.length c3] 60, .own (matsT 47 r.m) (.slice a3 r.m.length c3), .own (iT r.d) (.slice a2 r.d.length c2), .own (iT r.q.2.2) (.slice a1 r.q.2.2.length c1), .own (iT r.q.2.1) (.slice a0 r.q.2.1.length c0), .blk b0 #[iV 0, iV 0, .slice none 0 0, .slice none 0 0, .slice none 0 0, .slice none 0 0] 60]) (fun w' c' => c'.sub sL) ?_
    repeat' (first | (show oL; first | (show oA (.store _ _ _); refine m_storeb 6 tabs rfl rfl rfl rfl rfl rfl rfl ?_)) | refine xNt ?_ | (show oC; refine c_ret ?_))
    exact x_ret1 Tryz.results168 (res_cellb 6 tabs rfl rfl rfl rfl) (fun wz cz => ⟨_, _, rfl, ⟨i, ch, _, hi, rfl, r, hB, a0, c0, a1, c1, a2, c2, a3, c3, rfl, s0, s1, s2, s3, rfl⟩, cz.sub (.cons_cons _ (.cons _ (.cons_cons _ (.cons_cons _ (.cons_cons _ (.cons_cons _ (List.nil_sublist _)))))))⟩)
end Go.Proofs.YtijjkfbkihgfgaaGreat
