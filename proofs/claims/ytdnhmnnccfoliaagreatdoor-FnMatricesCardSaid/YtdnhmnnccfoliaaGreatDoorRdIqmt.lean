import Derived.Test.YtdnhmnnccfoliaaGreatDoorLCqmt
import Derived.Test.YtdnhmnnccfoliaaGreatDoorPrmqmt
import Derived.Test.YtdnhmnnccfoliaaGreatDoorRdPqmt
namespace Go.Proofs.YtdnhmnnccfoliaaGreatDoor
open Go.Lg Go.Proofs Go.RowKit
attribute [local irreducible] Code.wp wpList bodyPost Exit.then Exit.inBlock Hp Again Calls Y AT ResV QT Qn QI wpAny wpAnyQ
set_option maxRecDepth 20000
set_option maxHeartbeats 4000000

def addTo (p k : Int) (xs : List Int) (o : Nat) (ys : List Int) : Nat → List Int
  | 0 => xs
  | i + 1 => (addTo p k xs o ys i).set (o + i) ((xs.getD (o + i) 0 + k * ys.getD i 0) % p)
@[simp] theorem addTo_length {p k : Int} {xs : List Int} {o : Nat} {ys : List Int} : ∀ i, (addTo p k xs o ys i).length = xs.length
  | 0 => rfl
  | i + 1 => by simp [addTo, addTo_length i]
theorem addTo_get {p k : Int} {xs : List Int} {o : Nat} {ys : List Int} : ∀ i q, (q < o ∨ o + i ≤ q) → (addTo p k xs o ys i).getD q 0 = xs.getD q 0
  | 0, q, _ => rfl
  | i + 1, q, h => by
    simp only [addTo, List.getD, List.getElem?_set]
    rw [if_neg om]
    exact addTo_get i q om
theorem addMultiple_ok {w1 : World} {M1 : List Nat} {H1 : List HE} {w : World} {M' : List Nat} {p k : Int} {xs ys : List Int} {a0 aa b : Option Addr} {m c n ca cb o : Nat} (hF : FieldP p) (hk : 0 ≤ k ∧ k ≤ 5)
    (hl : Lent M1 w1 (.own (iT xs) (.slice a0 m c)) H1 M' w) (haa : 0 < n → aa = some ⟨ab a0, ao a0 + o, none⟩) (hxn : o + n ≤ xs.length) (hn : n ≤ 1048576) (hx : ∀ j, j < n → 0 ≤ xs.getD (o + j) 0 ∧ xs.getD (o + j) 0 ≤ 5) (hy : ∀ j, j < n → 0 ≤ ys.getD j 0 ∧ ys.getD j 0 ≤ 5) (hsb : SA b n)
    (hb : ∀ w' xs', Hp M' w [.own (iT xs') (.slice a0 m c)] w' → xs'.length = xs.length → (∀ q, q < o ∨ o + n ≤ q → xs'.getD q 0 = xs.getD q 0) → ∀ j, j < n → w'.cell? ⟨ab b, ao b + j, none⟩ = some (iV (ys.getD j 0))) :
    DoesB Tryz.prog 164 [iV p, .slice aa n ca, iV k, .slice b n cb] w M' (fun v H => v = .slice aa n ca ∧ H = [.own (iT (addTo p k xs o ys n)) (.slice a0 m c)]) := by
  have ⟨hp1, hp2⟩ := fieldP_pos hF
  refine fnb_lent Tryz.func164 rfl Tryz.ntmps164 rfl hl ?_
  repeat' (first | (show oL; first | refine sMv rfl rfl ?_ | refine sAs rfl rfl ?_ | refine sLn tabs rfl rfl rfl ?_) | refine xNt ?_ | (show oC; first | refine c_seq ?_ | refine c_region ?_ | refine c_block ?_))
  refine c_loopH (α := Nat) [0, 1, 2, 11, 12] (fun i => [(13, .int .i64 i)]) (fun i => i ≤ n) (fun i => [.own (iT (addTo p k xs o ys i)) (.slice a0 m c)]) (fun i => n - i) 0 rfl sB ?_ ?_ ?_
  · omega
  · exact fun w' c' => c'
  · intro i hi
    by_cases hin : i < n
    · obtain rfl := haa om
      have hv1 : (addTo p k xs o ys i).getD (o + i) 0 = xs.getD (o + i) 0 := addTo_get i _ om
      have hx1 := hx i hin
      have hy1 := hy i hin
      have hmb := mul_small (a := k) (b := ys.getD i 0) om hy1
      have hcell : ∀ w', Hp M' w [.own (iT (addTo p k xs o ys i)) (.slice a0 m c)] w' → w'.cell? ⟨ab a0, ao a0 + o + i, none⟩ = some (iV (xs.getD (o + i) 0)) := fun w' c' => by
        have := hc_own (M := M') (w0 := w) 0 (H := [.own (iT (addTo p k xs o ys i)) (.slice a0 m c)]) rfl (j := o + i) (by simp; omega) w' c'
        rw [hv1] at this
        rwa [Nat.add_assoc]
      repeat' (first | (show oL; first | refine sMv rfl rfl ?_ | refine sAs rfl rfl ?_ | (show oA (.load _ _); first | refine st_y (y_load tabs rfl rfl (fun w' c' => hb w' _ c' (by simp) (fun q hq => addTo_get i q om) i hin)) rfl ?_ | refine st_y (y_load tabs rfl rfl hcell) rfl ?_) | (show oA (.indexAddr _ _ _); first | refine st_y (y_ix1 tabs (j := i) rfl rfl rfl hsb rfl hin) rfl ?_ | refine st_y (y_ixs tabs (j := i) rfl rfl rfl rfl hin) rfl ?_) | (show oA (.binOp _ _ _ _ _); first | refine st_y (y_mul rfl rfl om) rfl ?_ | refine st_y (y_rem rfl rfl om) rfl ?_ | refine sAd rfl rfl om rfl ?_ | refine sLs rfl rfl rfl ?_) | (show oA (.store _ _ _); refine m_storeo 0 (j := o + i) tabs rfl (by rw [← Nat.add_assoc]; rfl) rfl rfl (by simp; omega) ?_)) | (show oN; first | refine c_nil (x_then ?_) | refine c_nil ?_) | (show oC; first | refine c_seq ?_ | refine c_region ?_ | refine c_skip (x_then ?_) | refine c_block ?_ | refine c_ift rfl aO ?_) | (show AT _ _ _ _; first | refine x_then ?_ | refine x_blk ?_))
      refine x_nx (i + 1) sB om (fun w' c' => ?_) om
      simp only [List.set_cons_zero] at c'
      rw [tmod_pos om] at c'
      exact c'
    · have : i = n := by omega
      subst this
      repeat' (first | (show oL; first | refine sMv rfl rfl ?_ | refine sAs rfl rfl ?_ | refine sLs rfl rfl rfl ?_) | refine xNt ?_ | (show oC; first | refine c_seq ?_ | refine c_region ?_ | refine c_ret ?_ | refine c_exit ?_ | refine c_iff rfl nN ?_) | (show AT _ _ _ _; first | refine x_then ?_ | refine x_then_exit ?_ | refine x_blk_exit rfl ?_))
      exact x_ret1 Tryz.results164 (res_tmp rfl) (fun w' c' => ⟨_, _, rfl, ⟨rfl, rfl⟩, c'⟩)

theorem own_cap (i : Nat) {M : List Nat} {w0 : World} {H : List HE} {e : Nat} {xs : List Int} {a : Option Addr} {m c : Nat} (hi : H[i]? = some (.own (ints e xs) (.slice a m c))) : ∀ w, Hp M w0 H w → xs.length ≤ c := fun w cw => by
  obtain ⟨a', c', h1, _, h2, _⟩ := (cw.own_rd hi).ints
  cases h1; exact h2
theorem addTo_mk {p k : Int} {R C i : Nat} {f : Nat → Nat → Int} {ys : List Int} (hi : i < R) : ∀ n, n ≤ C → addTo p k (mk R C f) (i * C) ys n = mk R C (fun a b => if a = i ∧ b < n then (f i b + k * ys.getD b 0) % p else f a b)
  | 0, _ => by simp [addTo]
  | n + 1, h => by
    simp only [addTo]
    rw [addTo_mk hi n om, mk_get hi om, mk_set hi om]
    congr 1
    funext a b
    unfold upd
    grind
end Go.Proofs.YtdnhmnnccfoliaaGreatDoor
