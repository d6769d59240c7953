import Derived.Test.YtdnhmnnccfoliaaDoorDrwqqv
import Derived.Test.YtdnhmnnccfoliaaDoorQscqqv
import Derived.Test.YtdnhmnnccfoliaaDoorZerqqv
namespace Go.Proofs.YtdnhmnnccfoliaaDoor
open Go.Lg Go.Proofs Go.RowKit
attribute [local irreducible] Code.wp wpList bodyPost Exit.then Exit.inBlock Hp Again Calls Y AT ResV QT Qn QI wpAny wpAnyQ
set_option maxRecDepth 20000
set_option maxHeartbeats 4000000

theorem hp_code {w w' : World} {H : List HE} {u : Value} (c : Hp [] w H w') (hc : CodeF w [] u) : CodeF w' [] u := by
  obtain ⟨xs, h, hb⟩ := hc
  exact ⟨xs, RdOut.of_rd (h.rd c), hb⟩
end Go.Proofs.YtdnhmnnccfoliaaDoor

namespace Go.Proofs.YtdnhmnnccfoliaaDoor
open Go.Lg Go.Proofs Go.RowKit
attribute [local irreducible] Code.wp wpList bodyPost Exit.then Exit.inBlock Hp Again Calls Y AT ResV QT Qn QI wpAny wpAnyQ
set_option maxRecDepth 20000
set_option maxHeartbeats 4000000

theorem l1Pick_ok {w1 : World} {M1 : List Nat} {H1 : List HE} {w : World} {M' : List Nat} {u v : Value} {b i : Nat} {h : Int} {l : List (List UInt8)} (hl : Lent M1 w1 (cu u b i h) H1 M' w) (hc : CodeF w1 M1 u) (hi : i ≤ vlen u) (hr : RdOut w M' (strT l) v) (hx : 0 < l.length) :
    DoesB Tryd.prog 40 [cuV b, v] w M' (Gcu u b (fun v H => ∃ x, v = sV x ∧ x ∈ l ∧ H = [])) := by
  have hc2 := lent_code hl hc
  obtain ⟨a, m, cap, rfl, hs, hmc, _, hlen, hg⟩ := RdOut.open (by decide) hr
  have hm : l.length = m := by simpa using hlen
  subst hm
  have hg' : ∀ j, j < l.length → ∀ w', Agree M' w w' → w'.cell? ⟨ab a, ao a + j, none⟩ = some (sV (l.getD j [])) := fun j hj => by
    obtain ⟨x, c, r⟩ := hg j (.c (sV (l.getD j []))) (by simp [List.getD, hj])
    rw [r.c] at c
    exact c
  have hmem : ∀ k : Int, 0 ≤ k → k < l.length → l.getD k.toNat [] ∈ l := fun k h0 h1 => by
    rw [List.getD, List.getElem?_eq_getElem (show k.toNat < l.length by omega)]; exact List.getElem_mem _
  refine fnb_lent Tryd.func40 rfl Tryd.ntmps40 rfl hl ?_
  repeat' (first | (show oL; first | refine sMv rfl rfl ?_ | refine sAs rfl rfl ?_ | (show oA (.load _ _); refine st_y (y_load tabs rfl rfl (fun w' c' => hg' _ om w' c'.agree)) rfl ?_) | (show oA (.indexAddr _ _ _); refine st_y (y_ixi tabs rfl rfl rfl hs om om) rfl ?_) | (show oA (.call _); first | (refine m_callL 0 (ent_of Tryd.func38 kr rfl) rfl rfl rfl (fun w M' hl => l1Below_ok l.length hl hc2 hi) ?_; rintro v H' ⟨i, h, _, hi, rfl, x, rfl, hx, rfl⟩) | refine sLn tabs rfl rfl rfl ?_)) | refine xNt ?_ | (show oC; first | refine c_seq ?_ | refine c_region ?_ | refine c_ret ?_))
  exact x_ret1 Tryd.results40 (res_tmp rfl) (fun w' c' => ⟨_, _, rfl, ⟨i, _, [], hi, rfl, _, rfl, hmem _ om om, rfl⟩, c'⟩)
def nmL : List (List UInt8) := [[65, 49], [65, 50], [65, 51], [65, 51, 105, 110], [65, 52], [68, 52], [68, 53], [75, 50], [115, 116, 97, 114, 52], [115, 113, 117, 97, 114, 101], [108, 111, 111, 112], [99, 105, 114, 99, 108, 101]]
def nmX (s : List UInt8) : List UInt8 :=
  if s = [65, 49] then [49, 58] else if s = [65, 50] then [50, 58, 32, 48, 49] else if s = [65, 51] then [51, 58, 32, 48, 49, 32, 49, 50] else if s = [65, 51, 105, 110] then [51, 58, 32, 48, 49, 32, 50, 49] else
  if s = [65, 52] then [52, 58, 32, 48, 49, 32, 49, 50, 32, 50, 51] else if s = [68, 52] then [52, 58, 32, 48, 51, 32, 49, 51, 32, 50, 51] else if s = [68, 53] then [53, 58, 32, 48, 50, 32, 49, 50, 32, 50, 51, 32, 51, 52] else
  if s = [75, 50] then [50, 58, 32, 48, 49, 32, 48, 49] else if s = [115, 116, 97, 114, 52] then [53, 58, 32, 48, 52, 32, 49, 52, 32, 50, 52, 32, 51, 52] else if s = [115, 113, 117, 97, 114, 101] then [52, 58, 32, 48, 49, 32, 48, 50, 32, 49, 51, 32, 50, 51] else
  if s = [108, 111, 111, 112] then [49, 58, 32, 48, 48] else if s = [99, 105, 114, 99, 108, 101] then [51, 58, 32, 48, 49, 32, 49, 50, 32, 50, 48] else []
theorem nm_par : ∀ k, k < 12 → parP (nmX (nmL.getD k [])) := by decide +kernel
theorem l6Names_ok {w : World} : Does Tryd.prog 56 [] w (fun v H => ∃ a c, v = .slice a nmL.length c ∧ SA a nmL.length ∧ H = [.own (strT nmL) (.slice a nmL.length c)]) := by
  refine fn_enter Tryd.func56 rfl Tryd.ntmps56 rfl ?_
  repeat' (first | (show oL; first | refine sAs rfl rfl ?_ | (show oA (.buildSlice _ _ _); refine m_buildc tabs (nmL.map sV) rfl rfl rfl rfl rfl rfl rfl (fun u hu => by obtain ⟨q, _, rfl⟩ := List.mem_map.1 hu; rfl) (fun g hg => ?_))) | refine xNt ?_ | (show oC; first | refine c_seq ?_ | refine c_region ?_ | refine c_ret ?_))
  exact x_ret1 Tryd.results56 (res_tmp rfl) (fun w' c' => ⟨_, _, rfl, ⟨_, _, rfl, .mk, rfl⟩, c'⟩)
theorem spec_NamedQuiver_ok {w : World} {s : List UInt8} : Does Tryd.prog 27 [sV s] w (GivesQn (parQ (nmX s)) (decide (parP (nmX s)))) := by
  refine fn_enter Tryd.func27 rfl Tryd.ntmps27 rfl ?_
  repeat' (first | (show oL; first | refine sMv rfl rfl ?_ | refine sAs rfl rfl ?_ | refine sLb 0 tabs rfl rfl rfl rfl rfl ?_ | (show oA (.binOp _ _ _ _ _); refine st_y (y_eqls rfl rfl) rfl ?_) | (show oA (.call _); (refine m_call (ent_of Tryd.func9 kr rfl) rfl rfl (fun w c => spec_ParseQuiver_ok (by decide)) ?_; rintro v H' ⟨a, c, a', c', rfl, rfl⟩)) | (show oA (.extract _ _); refine st_y (y_ext rfl rfl) rfl ?_) | (show oA (.store _ _ _); first | refine m_storeb 0 tabs rfl rfl rfl rfl rfl rfl rfl ?_ | refine m_storeb 3 tabs rfl rfl rfl rfl rfl rfl rfl ?_) | (show oA (.alloc _); refine m_alloc tabs rfl rfl (fun b2 hb2 => ?_))) | (show oN; first | refine c_nil (x_then ?_) | refine c_nil ?_) | (show oC; first | refine c_seq ?_ | refine c_region ?_ | refine c_skip (x_blk ?_) | refine c_block ?_ | refine c_ret ?_ | refine c_if rfl (fun h => ?_) (fun h => ?_)) | (show AT _ _ _ _; first | refine x_then ?_ | refine x_blk ?_))
  all_goals first
    | (subst h; exact x_ret2 Tryd.results27 (res_cellb 3 tabs rfl rfl rfl rfl) (res_tmp rfl) (fun wz cz => ⟨_, _, rfl, ⟨a, c, a', c', rfl, rfl⟩, cz.sub (.cons _ (.cons_cons _ (.cons_cons _ (List.nil_sublist _))))⟩))
    | (have e : nmX s = [] := by simp [nmX, *]
       rw [e]
       exact x_ret2 Tryd.results27 (res_cellb 3 tabs rfl rfl rfl rfl) (res_tmp rfl) (fun wz cz => ⟨_, _, rfl, ⟨a, c, a', c', rfl, rfl⟩, cz.sub (.cons _ (.cons_cons _ (.cons_cons _ (List.nil_sublist _))))⟩))
end Go.Proofs.YtdnhmnnccfoliaaDoor
