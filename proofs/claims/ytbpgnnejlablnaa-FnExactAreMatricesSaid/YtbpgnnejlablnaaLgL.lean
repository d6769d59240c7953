import Derived.Test.YtbpgnnejlablnaaLgK
namespace Go.Lg
open Go.RowKit

theorem flatten_rep_get {α : Type} (z : List α) : ∀ (n i : Nat), i < n * z.length → ((List.replicate n z).flatten)[i]? = z[i % z.length]?
  | 0, i, h => by omega
  | n + 1, i, h => by
    rw [List.replicate_succ, List.flatten_cons]
    by_cases hi : i < z.length
    · rw [List.getElem?_append_left hi, Nat.mod_eq_of_lt hi]
    · rw [List.getElem?_append_right (by omega), flatten_rep_get z n (i - z.length) (by rw [Nat.succ_mul] at h; omega)]
      rw [← Nat.mod_eq_sub_mod (by omega)]
theorem zeros_eq (z : List Value) (m : Nat) (hz : 0 < z.length) : (zeros z m).toList = (List.replicate m z).flatten := by
  apply List.ext_getElem?
  intro i
  have hl : ((List.replicate m z).flatten).length = m * z.length := by simp
  by_cases hi : i < m * z.length
  · rw [flatten_rep_get z m i hi]
    have hm : i % z.length < z.length := Nat.mod_lt _ hz
    simp [zeros, madeCells, hi, hm]
  · rw [List.getElem?_eq_none (by simp [zeros, madeCells]; omega), List.getElem?_eq_none (by rw [hl]; omega)]
theorem OwnL.rep {w : World} {tz : List T} {z : List Value} (h : OwnL w tz z []) : ∀ m, OwnL w (List.replicate m tz).flatten (List.replicate m z).flatten []
  | 0 => by simp [OwnL]
  | m + 1 => by
    rw [List.replicate_succ, List.replicate_succ, List.flatten_cons, List.flatten_cons]
    have := OwnL.append h (OwnL.rep h m)
    simpa using this

section
variable {P : Program} {n : Nat} {s : List (Nat × Value)} {Q : Exit → Act → World → Prop} {ops : Array Oper} {rest : List Oper}
variable {d ty t : Nat} {pos : String} {af : Array Edge} {x y : Operand} {M : List Nat} {w0 w : World} {H : List HE}

/-- make of elements whose zero has no blocks -/
theorem m_makeT (T0 : Tabs P) {e k by' : Nat} {l : Int} {z : List Value} {tz : List T} (ht : lk T0.sl t = some (e, k, by', z)) (hx : ev s x = some (.int .i64 l)) (hy : ev s y = some (.int .i64 l)) (h0 : 0 ≤ l) (hc : l ≤ 1099511627776) (hb : by' ≤ 256) (hz : ∀ w, OwnL w tz z []) (hd : Nat.blt d n = true)
    (h : ∀ b, w0.heap.size ≤ b → AT n (Hp M w0 (.own (.s e k (List.replicate l.toNat tz).flatten) (.slice (some ⟨b, 0, none⟩) l.toNat l.toNat) :: H)) ((d, .slice (some ⟨b, 0, none⟩) l.toNat l.toNat) :: s) (wpList P ops Q rest)) :
    AT n (Hp M w0 H) s (wpList P ops Q (⟨some d, .makeSlice t x y, ty, pos, af, none⟩ :: rest)) :=
  m_make T0 ht hx hy h0 (Int.le_refl _) (by
    refine Nat.le_trans (Nat.mul_le_mul hb (show l.toNat ≤ 1099511627776 by omega)) (by omega)) (by omega) hd (fun b hb1 => AT.cls (fun w c => by
    refine c.say (H1 := [.own (.s e k (List.replicate l.toNat tz).flatten) (.slice (some ⟨b, 0, none⟩) l.toNat l.toNat)]) (fun f hf => ?_)
    obtain ⟨h1, rfl⟩ := hf
    have hkz := (T0.sl_ok _ _ _ _ _ ht).2.1
    have hk0 := (T0.sl_ok _ _ _ _ _ ht).2.2.1
    have htz : tz.length = k := by rw [← hkz]; exact (OwnL.length (hz w)).symm
    refine ⟨[b], List.Perm.refl _, [b], [], rfl, ?_, rfl⟩
    simp only [HE.sat, Own]
    refine .inr ⟨b, l.toNat, l.toNat, _, [], rfl, h1, by simp [htz], Nat.le_refl _, by unfold maxLen; omega, by simp [zeros, size_madeCells, hkz], ?_, rfl⟩
    rw [zeros_eq z _ (by omega), List.take_of_length_le (by simp [hkz])]
    exact OwnL.rep (hz w) _) (h b hb1))

/-- own pieces of a struct element: two plain cells and a slice -/
theorem Hp.mat {u0 u1 v : Value} {t : T} (hp : Hp M w0 (.own t v :: H) w) : Hp M w0 (.ownL [.c u0, .c u1, t] [u0, u1, v] :: H) w := (hp.single.ahead u1).ahead u0
end
end Go.Lg
