import Derived.Test.YtdnhmnnccfoliaaGreatDoorDrwqrp
import Derived.Test.YtdnhmnnccfoliaaGreatDoorMxfqrp
import Derived.Test.YtdnhmnnccfoliaaGreatDoorOpnqrp
import Derived.Test.YtdnhmnnccfoliaaGreatDoorQupqrp
import Derived.Test.YtdnhmnnccfoliaaGreatDoorSpbqrp
import Derived.Test.YtdnhmnnccfoliaaGreatDoorStrqrp
namespace Go.Proofs.YtdnhmnnccfoliaaGreatDoor
open Go.Lg Go.Proofs Go.RowKit
attribute [local irreducible] Code.wp wpList bodyPost Exit.then Exit.inBlock Hp Again Calls Y AT ResV QT Qn QI wpAny wpAnyQ
set_option maxRecDepth 20000
set_option maxHeartbeats 4000000

def dg (x : Int) : UInt8 := UInt8.ofNat (48 + x.toNat)
theorem dg_conv {x : Int} (h0 : 0 ≤ x) (h9 : x ≤ 9) : IntKind.u8.wrap (48 + x) = ((dg x).toNat : Int) := by
  obtain ⟨k, rfl⟩ : ∃ k : Nat, x = k := ⟨x.toNat, by omega⟩
  have hk : k < 10 := by omega
  match k, hk with
  | 0, _ => rfl
  | 1, _ => rfl
  | 2, _ => rfl
  | 3, _ => rfl
  | 4, _ => rfl
  | 5, _ => rfl
  | 6, _ => rfl
  | 7, _ => rfl
  | 8, _ => rfl
  | 9, _ => rfl
def fiN (n : Int) : Nat → Int
  | 0 => n
  | _ + 1 => 0
def fiS (n : Int) : Nat → List UInt8
  | 0 => []
  | _ + 1 => [dg n]
theorem spec_FormatInt_ok {w : World} {n : Int} (h0 : 0 ≤ n) (h9 : n ≤ 9) : Does Tryz.prog 103 [iV n] w (fun r H => r = sV [dg n] ∧ H = []) := by
  by_cases hn : n = 0
  · subst hn
    refine fn_enter Tryz.func103 rfl Tryz.ntmps103 rfl ?_
    repeat' (first | (show oL; first | refine sMv rfl rfl ?_ | refine sAs rfl rfl ?_ | (show oA (.binOp _ _ _ _ _); first | refine sAd rfl rfl om rfl ?_ | refine sLs rfl rfl rfl ?_ | refine st_y (y_eql rfl rfl) rfl ?_ | refine st_y (y_neq rfl rfl) rfl ?_ | refine st_y (y_neqb_same Tryz.underlying4 rfl rfl) rfl ?_) | (show oA (.unOp _ _ _); first | refine st_y (y_notd rfl) rfl ?_ | refine st_y (y_not rfl) rfl ?_) | (show oA (.buildSlice _ _ _); refine m_build0 tabs rfl rfl (fun g hg => ?_))) | (show oN; first | refine c_nil (x_then ?_) | refine c_nil (x_qn ?_) | refine c_nil ?_) | (show oC; first | refine c_seq ?_ | refine c_region ?_ | refine c_skip (x_then ?_) | refine c_skip (x_blk ?_) | refine c_skip ?_ | refine c_block ?_ | refine c_ret ?_ | refine c_exit ?_ | refine c_true rfl ?_ | refine c_false rfl ?_ | refine c_ift rfl aO ?_ | refine c_iff rfl nN ?_ | refine c_ifnd rfl (fun h => ?_) (fun h => ?_) | refine c_if rfl (fun h => ?_) (fun h => ?_) | refine c_ifn rfl (fun h => ?_) (fun h => ?_)) | (show AT _ _ _ _; first | refine x_then ?_ | refine x_qn ?_ | refine x_then_ret ?_ | refine x_blk_ret ?_ | refine x_then_exit ?_ | refine x_blk_exit rfl ?_ | refine x_blk_other rfl ?_ | refine x_blk ?_))
    exact x_ret1 Tryz.results103 (res_tmp rfl) (fun w' c' => ⟨_, _, rfl, ⟨rfl, rfl⟩, c'.sub (List.nil_sublist _)⟩)
  · have e1 : n.tmod 10 = n := Int.tmod_eq_of_lt h0 om
    have e2 : IntKind.i64.wrap (n.tdiv 10) = 0 := by
      rw [Int.tdiv_eq_zero_of_lt h0 om]; rfl
    refine fn_enter Tryz.func103 rfl Tryz.ntmps103 rfl ?_
    repeat' (first | (show oL; first | refine sMv rfl rfl ?_ | refine sAs rfl rfl ?_ | (show oA (.binOp _ _ _ _ _); first | refine sAd rfl rfl om rfl ?_ | refine sLs rfl rfl rfl ?_ | refine st_y (y_eql rfl rfl) rfl ?_ | refine st_y (y_neq rfl rfl) rfl ?_ | refine st_y (y_neqb_same Tryz.underlying4 rfl rfl) rfl ?_) | (show oA (.unOp _ _ _); first | refine st_y (y_notd rfl) rfl ?_ | refine st_y (y_not rfl) rfl ?_) | (show oA (.buildSlice _ _ _); refine m_build0 tabs rfl rfl (fun g hg => ?_))) | (show oN; first | refine c_nil (x_then ?_) | refine c_nil (x_qn ?_) | refine c_nil ?_) | (show oC; first | refine c_seq ?_ | refine c_region ?_ | refine c_skip (x_then ?_) | refine c_skip (x_blk ?_) | refine c_skip ?_ | refine c_block ?_ | refine c_ret ?_ | refine c_exit ?_ | refine c_true rfl ?_ | refine c_false rfl ?_ | refine c_ift rfl aO ?_ | refine c_iff rfl nN ?_ | refine c_ifnd rfl (fun h => ?_) (fun h => ?_) | refine c_if rfl (fun h => ?_) (fun h => ?_) | refine c_ifn rfl (fun h => ?_) (fun h => ?_)) | (show AT _ _ _ _; first | refine x_then ?_ | refine x_qn ?_ | refine x_then_ret ?_ | refine x_blk_ret ?_ | refine x_then_exit ?_ | refine x_blk_exit rfl ?_ | refine x_blk_other rfl ?_ | refine x_blk ?_))
    refine c_loopH (α := Nat) [4] (fun k => [(0, iV (fiN n k)), (3, sV (fiS n k))]) (fun k => k ≤ 1) (fun k => []) (fun k => 1 - k) 0 rfl sB ?_ ?_ ?_
    · omega
    · exact fun w' c' => c'
    · intro k hk
      match k, hk with
      | 0, _ =>
        simp only [fiN, fiS]
        repeat' (first | (show oL; first | refine sMv rfl rfl ?_ | refine sAs rfl rfl ?_ | (show oA (.binOp _ _ _ _ _); first | refine st_y (y_rem rfl rfl (by decide)) rfl ?_ | refine st_y (y_cat rfl rfl (by simp) (by simp)) rfl ?_ | refine st_y (y_quo rfl rfl (by decide)) rfl ?_ | refine sAd rfl rfl om rfl ?_ | refine sLs rfl rfl rfl ?_ | refine st_y (y_eql rfl rfl) rfl ?_ | refine st_y (y_neq rfl rfl) rfl ?_ | refine st_y (y_neqb_same Tryz.underlying4 rfl rfl) rfl ?_) | (show oA (.unOp _ _ _); first | refine st_y (y_notd rfl) rfl ?_ | refine st_y (y_not rfl) rfl ?_) | (show oA (.buildSlice _ _ _); first | refine m_build1 tabs (us := [bV (dg n)]) rfl rfl rfl rfl (by decide) rfl (fun g hg => ?_) | refine m_build0 tabs rfl rfl (fun g hg => ?_)) | (show oA (.convert _ _ _); first | refine st_y (y_convk (t := 3) (t' := 5) (k := .i64) (k' := .u8) (q := ((dg n).toNat : Int)) kr kr kr rfl (by rw [e1]; exact dg_conv h0 h9)) rfl ?_ | refine st_y (y_convbs (t := 38) (t' := 9) (e := 5) (l := [dg n]) kr kr kr rfl (fun w c => fun j u hj => by rw [Addr.add_lit]; exact hc_blk 0 rfl (by rw [Nat.zero_add, List.getElem?_toArray]; exact hj) w c)) rfl ?_)) | (show oN; first | refine c_nil (x_then ?_) | refine c_nil (x_qn ?_) | refine c_nil ?_) | (show oC; first | refine c_seq ?_ | refine c_region ?_ | refine c_skip (x_then ?_) | refine c_skip (x_blk ?_) | refine c_skip ?_ | refine c_block ?_ | refine c_ret ?_ | refine c_exit ?_ | refine c_true rfl ?_ | refine c_false rfl ?_ | refine c_ift rfl aO ?_ | refine c_iff rfl nN ?_ | refine c_ifnd rfl (fun h => ?_) (fun h => ?_) | refine c_if rfl (fun h => ?_) (fun h => ?_) | refine c_ifn rfl (fun h => ?_) (fun h => ?_)) | (show AT _ _ _ _; first | refine x_then ?_ | refine x_qn ?_ | refine x_then_ret ?_ | refine x_blk_ret ?_ | refine x_then_exit ?_ | refine x_blk_exit rfl ?_ | refine x_blk_other rfl ?_ | refine x_blk ?_))
        rw [e2]
        exact x_nx 1 sB om (fun w' c' => c'.sub (List.nil_sublist _)) om
      | 1, _ =>
        simp only [fiN, fiS]
        repeat' (first | (show oL; first | refine sMv rfl rfl ?_ | refine sAs rfl rfl ?_ | (show oA (.binOp _ _ _ _ _); first | refine sAd rfl rfl om rfl ?_ | refine sLs rfl rfl rfl ?_ | refine st_y (y_eql rfl rfl) rfl ?_ | refine st_y (y_neq rfl rfl) rfl ?_ | refine st_y (y_neqb_same Tryz.underlying4 rfl rfl) rfl ?_) | (show oA (.unOp _ _ _); first | refine st_y (y_notd rfl) rfl ?_ | refine st_y (y_not rfl) rfl ?_) | (show oA (.buildSlice _ _ _); refine m_build0 tabs rfl rfl (fun g hg => ?_))) | (show oN; first | refine c_nil (x_then ?_) | refine c_nil (x_qn ?_) | refine c_nil ?_) | (show oC; first | refine c_seq ?_ | refine c_region ?_ | refine c_skip (x_then ?_) | refine c_skip (x_blk ?_) | refine c_skip ?_ | refine c_block ?_ | refine c_ret ?_ | refine c_exit ?_ | refine c_true rfl ?_ | refine c_false rfl ?_ | refine c_ift rfl aO ?_ | refine c_iff rfl nN ?_ | refine c_ifnd rfl (fun h => ?_) (fun h => ?_) | refine c_if rfl (fun h => ?_) (fun h => ?_) | refine c_ifn rfl (fun h => ?_) (fun h => ?_)) | (show AT _ _ _ _; first | refine x_then ?_ | refine x_qn ?_ | refine x_then_ret ?_ | refine x_blk_ret ?_ | refine x_then_exit ?_ | refine x_blk_exit rfl ?_ | refine x_blk_other rfl ?_ | refine x_blk ?_))
        exact x_ret1 Tryz.results103 (res_tmp rfl) (fun w' c' => ⟨_, _, rfl, ⟨rfl, rfl⟩, c'.sub (List.nil_sublist _)⟩)
end Go.Proofs.YtdnhmnnccfoliaaGreatDoor

namespace Go.Lg
open Go.RowKit
section
variable {P : Program} {n : Nat} {C : World → Prop} {s : List (Nat × Value)} {ty t : Nat} {x lo' hi' : Operand}
theorem y_sls {a : List UInt8} {i j : Nat} {p q : Int} (ht : P.underlying t = some .string) (hx : ev s x = some (sV a)) (hl : ev s lo' = some (.int .i64 p)) (hh : ev s hi' = some (.int .i64 q)) (hp : p = (i : Int)) (hq : q = (j : Int)) (h1 : i ≤ j) (h2 : j ≤ a.length) : Y P n C s (.slice t x (some lo') (some hi') none) ty (sV ((a.drop i).take (j - i))) := fun aa w f c d pos af g => by
  subst hp; subst hq
  simp only [sV] at hx
  have h := run_slice_string (P := P) w t ⟨a.toArray⟩ .i64 .i64 i j ht om om (by simp [ByteArray.size]; omega)
  simp only [Int.toNat_natCast, ByteArray.extract_mk] at h
  simp [execOp, f.ev hx, f.ev hl, f.ev hh, run_sliceAt_string, ht, h, sV]
end
end Go.Lg
namespace Go.Proofs.YtdnhmnnccfoliaaGreatDoor
open Go.Lg Go.Proofs Go.RowKit
attribute [local irreducible] Code.wp wpList bodyPost Exit.then Exit.inBlock Hp Again Calls Y AT ResV QT Qn QI wpAny wpAnyQ
set_option maxRecDepth 20000
set_option maxHeartbeats 4000000

theorem dg_ne {x : Int} (h0 : 0 ≤ x) (h9 : x ≤ 9) : dg x ≠ 32 ∧ dg x ≠ 58 ∧ ((dg x).toNat : Int) - 48 = x := by
  obtain ⟨k, rfl⟩ : ∃ k : Nat, x = k := ⟨x.toNat, by omega⟩
  have hk : k < 10 := by omega
  match k, hk with
  | 0, _ => exact ⟨by decide, by decide, rfl⟩
  | 1, _ => exact ⟨by decide, by decide, rfl⟩
  | 2, _ => exact ⟨by decide, by decide, rfl⟩
  | 3, _ => exact ⟨by decide, by decide, rfl⟩
  | 4, _ => exact ⟨by decide, by decide, rfl⟩
  | 5, _ => exact ⟨by decide, by decide, rfl⟩
  | 6, _ => exact ⟨by decide, by decide, rfl⟩
  | 7, _ => exact ⟨by decide, by decide, rfl⟩
  | 8, _ => exact ⟨by decide, by decide, rfl⟩
  | 9, _ => exact ⟨by decide, by decide, rfl⟩
def prtQ (q : Qv) : Nat → List UInt8
  | 0 => [dg q.1, 58]
  | k + 1 => [dg (q.2.1.getD k 0), dg (q.2.2.getD k 0)]
def fmA (q : Qv) : Nat → List UInt8
  | 0 => prtQ q 0
  | i + 1 => fmA q i ++ 32 :: prtQ q (i + 1)
def fmtQ (q : Qv) : List UInt8 := if QuivP q then fmA q q.2.1.length else []
theorem fmA_len {q : Qv} : ∀ i, (fmA q i).length = 3 * i + 2
  | 0 => rfl
  | i + 1 => by
    rw [fmA, List.length_append, fmA_len i, prtQ]
    simp only [List.length_cons, List.length_nil]; omega
theorem fmtQ_len (q : Qv) : (fmtQ q).length ≤ 20 := by
  unfold fmtQ
  split
  · rename_i h
    have := h.2.1
    rw [fmA_len]; omega
  · simp
theorem fmA_get {q : Qv} : ∀ {i k : Nat}, k < i → (fmA q i).getD (3 * k + 3) 0 = dg (q.2.1.getD k 0) ∧ (fmA q i).getD (3 * k + 4) 0 = dg (q.2.2.getD k 0)
  | 0, k, h => by omega
  | i + 1, k, h => by
    have hl := fmA_len (q := q) i
    by_cases hk : k < i
    · have := fmA_get (q := q) hk
      rw [fmA]
      simp only [List.getD, List.getElem?_append_left (show 3 * k + 3 < (fmA q i).length by omega), List.getElem?_append_left (show 3 * k + 4 < (fmA q i).length by omega)]
      exact this
    · have : k = i := by omega
      subst this
      rw [fmA]
      simp only [List.getD, List.getElem?_append_right (show (fmA q k).length ≤ 3 * k + 3 by omega), List.getElem?_append_right (show (fmA q k).length ≤ 3 * k + 4 by omega), hl]
      rw [show 3 * k + 3 - (3 * k + 2) = 1 by omega, show 3 * k + 4 - (3 * k + 2) = 2 by omega]
      exact ⟨rfl, rfl⟩
theorem fmA_head {q : Qv} : ∀ i, (fmA q i).getD 0 0 = dg q.1
  | 0 => rfl
  | i + 1 => by
    have hl := fmA_len (q := q) i
    rw [fmA]
    simp only [List.getD, List.getElem?_append_left (show 0 < (fmA q i).length by omega)]
    exact fmA_head i
def candQ (s : List UInt8) : Qv := (((s.getD 0 0).toNat : Int) - 48, (List.range ((s.length - 2) / 3)).map (fun i => ((s.getD (3 * i + 3) 0).toNat : Int) - 48), (List.range ((s.length - 2) / 3)).map (fun i => ((s.getD (3 * i + 4) 0).toNat : Int) - 48))
def parP (s : List UInt8) : Prop := QuivP (candQ s) ∧ fmtQ (candQ s) = s
instance (s : List UInt8) : Decidable (parP s) := by unfold parP; infer_instance
def parQ (s : List UInt8) : Qv := if parP s then candQ s else (0, [], [])
theorem quiv_rng {q : Qv} (h : QuivP q) : (∀ k, k < q.2.1.length → 0 ≤ q.2.1.getD k 0 ∧ q.2.1.getD k 0 ≤ 4) ∧ ∀ k, k < q.2.1.length → 0 ≤ q.2.2.getD k 0 ∧ q.2.2.getD k 0 ≤ 4 := by
  obtain ⟨hV, h6, ht, hf, hg⟩ := h
  constructor
  · intro k hk
    have := hf _ (getD_in hk)
    omega
  · intro k hk
    have := hg _ (getD_in (show k < q.2.2.length by omega))
    omega
theorem list_range {l : List Int} {n : Nat} (h : l.length = n) : (List.range n).map (fun i => l.getD i 0) = l := (mkv_of h).symm
theorem cand_fmt {q : Qv} (h : QuivP q) : candQ (fmtQ q) = q := by
  have hr := quiv_rng h
  obtain ⟨V, F, T⟩ := q
  have hV := h.1
  have hT := h.2.2.1
  simp only at hr hV hT
  rw [fmtQ, if_pos h, candQ, fmA_len]
  simp only
  rw [show (3 * F.length + 2 - 2) / 3 = F.length by omega, fmA_head]
  have e1 : (List.range F.length).map (fun i => (((fmA (V, F, T) F.length).getD (3 * i + 3) 0).toNat : Int) - 48) = F := by
    rw [← list_range (l := F) rfl, List.length_map, List.length_range]
    refine List.map_congr_left (fun i hi => ?_)
    have hi' := List.mem_range.1 hi
    rw [list_range rfl, (fmA_get hi').1]
    exact (dg_ne (hr.1 i hi').1 (by have := hr.1 i hi'; omega)).2.2
  have e2 : (List.range F.length).map (fun i => (((fmA (V, F, T) F.length).getD (3 * i + 4) 0).toNat : Int) - 48) = T := by
    rw [← list_range (l := T) hT]
    refine List.map_congr_left (fun i hi => ?_)
    have hi' := List.mem_range.1 hi
    rw [list_range hT, (fmA_get hi').2]
    exact (dg_ne (hr.2 i hi').1 (by have := hr.2 i hi'; omega)).2.2
  rw [e1, e2, (dg_ne (x := V) om om).2.2]
theorem par_iff {s : List UInt8} : parP s ↔ ∃ q, QuivP q ∧ fmtQ q = s := by
  constructor
  · exact fun h => ⟨_, h⟩
  · rintro ⟨q, h, rfl⟩
    rw [parP, cand_fmt h]
    exact ⟨h, rfl⟩
theorem parQ_fmt {q : Qv} (h : QuivP q) : parQ (fmtQ q) = q := by rw [parQ, if_pos (par_iff.2 ⟨q, h, rfl⟩), cand_fmt h]
def spR (d : UInt8) (s : List UInt8) : List (List UInt8) × List UInt8 := s.foldl (fun r x => if x = d then (r.1 ++ [r.2], []) else (r.1, r.2 ++ [x])) ([], [])
def spL (d : UInt8) (s : List UInt8) : List (List UInt8) := (spR d s).1 ++ [(spR d s).2]
theorem spR_next {d : UInt8} {s : List UInt8} {i : Nat} (h : i < s.length) : spR d (s.take (i + 1)) = if s.getD i 0 = d then ((spR d (s.take i)).1 ++ [(spR d (s.take i)).2], []) else ((spR d (s.take i)).1, (spR d (s.take i)).2 ++ [s.getD i 0]) := by
  rw [List.take_add_one, List.getElem?_eq_getElem h, spR, List.foldl_append]
  simp only [Option.toList_some, List.foldl_cons, List.foldl_nil, List.getD, List.getElem?_eq_getElem h, Option.getD_some]
  rfl
theorem spR_len {d : UInt8} {s : List UInt8} : ∀ i, i ≤ s.length → (spR d (s.take i)).1.length ≤ i ∧ (spR d (s.take i)).2.length ≤ i
  | 0, _ => by simp [spR]
  | i + 1, h => by
    have ih := spR_len (d := d) (s := s) i om
    rw [spR_next om]
    split
    · simp only [List.length_append, List.length_singleton, List.length_nil]; omega
    · simp only [List.length_append, List.length_singleton]; omega
def preQ (q : Qv) : Nat → List (List UInt8)
  | 0 => []
  | i + 1 => preQ q i ++ [prtQ q i]
theorem preQ_len {q : Qv} : ∀ i, (preQ q i).length = i
  | 0 => rfl
  | i + 1 => by rw [preQ, List.length_append, preQ_len i]; rfl
theorem preQ_get {q : Qv} : ∀ {i k : Nat}, k < i → (preQ q i)[k]? = some (prtQ q k)
  | 0, k, h => by omega
  | i + 1, k, h => by
    have hl := preQ_len (q := q) i
    rw [preQ]
    by_cases hk : k < i
    · rw [List.getElem?_append_left om]; exact preQ_get hk
    · have : k = i := by omega
      subst this
      rw [List.getElem?_append_right om, hl, Nat.sub_self]; rfl
theorem cut_fmA {q : Qv} (hV : 0 ≤ q.1 ∧ q.1 ≤ 9) (hr : (∀ k, k < q.2.1.length → 0 ≤ q.2.1.getD k 0 ∧ q.2.1.getD k 0 ≤ 4) ∧ ∀ k, k < q.2.1.length → 0 ≤ q.2.2.getD k 0 ∧ q.2.2.getD k 0 ≤ 4) : ∀ i, i ≤ q.2.1.length → spR 32 (fmA q i) = (preQ q i, prtQ q i)
  | 0, _ => by
    have h1 := (dg_ne hV.1 hV.2).1
    simp [fmA, prtQ, spR, preQ, h1]
  | i + 1, h => by
    have ih := cut_fmA hV hr i om
    have a1 := hr.1 i om
    have a2 := hr.2 i om
    have h1 := (dg_ne a1.1 om).1
    have h2 := (dg_ne a2.1 om).1
    rw [fmA, spR, List.foldl_append]
    rw [spR] at ih
    rw [ih, show prtQ q (i + 1) = [dg (q.2.1.getD i 0), dg (q.2.2.getD i 0)] from rfl, preQ]
    simp only [List.foldl_cons, List.foldl_nil, if_true, if_neg h1, if_neg h2]
    rfl
theorem cut_fmtQ {q : Qv} (h : QuivP q) : spL 32 (fmtQ q) = preQ q (q.2.1.length + 1) := by
  have hV := h.1
  rw [fmtQ, if_pos h, spL, cut_fmA om (quiv_rng h) _ (Nat.le_refl _)]
  rfl
end Go.Proofs.YtdnhmnnccfoliaaGreatDoor
