import Derived.Test.YtdnhmnnccfoliaaGreatDoorLFqrp
import Derived.Test.YtdnhmnnccfoliaaGreatDoorMulqrp
import Derived.Test.YtdnhmnnccfoliaaGreatDoorSpmqrp
import Derived.Test.YtdnhmnnccfoliaaGreatDoorStrqrp
namespace Go.Lg
open Go.RowKit
section
variable {P : Program} {n : Nat} {w0 w1 w : World} {H H' : List HE} {s : List (Nat × Value)} {R : Act → World → Prop} {x : Operand} {t ty : Nat}
theorem AT.base (h : ∀ w1, Hp [] w0 H w1 → AT n (Hp [] w1 []) s R) : AT n (Hp [] w0 H) s R := fun a w f c => h w c a w f Hp.nil
theorem Hp.after (h : Hp [] w0 H w1) (h' : Hp [] w1 H' w) : Hp [] w0 H' w := by
  obtain ⟨_, _, _, _, k⟩ := h
  obtain ⟨fp, s', nd, ge, k'⟩ := h'
  refine ⟨fp, s', nd, fun b hb => ?_, ⟨k'.os.trans k.os, k'.tape.trans k.tape, k'.output.trans k.output, Nat.le_trans k.size k'.size, fun b hb hm => ?_⟩⟩
  · rcases ge b hb with h | h
    · simp at h
    · exact .inr (Nat.le_trans k.size h)
  · rw [k'.block b (Nat.lt_of_lt_of_le hb k.size) hm, k.block b hb hm]
structure BoxAt (w : World) (b : Nat) (cur : Array Value) (e : Nat) : Prop where
  at' : w.heap[b]? = some (.cells cur e (0, 0))
theorem Hp.box {i b e : Nat} {cur : Array Value} (hp : Hp [] w0 H w) (hi : H[i]? = some (.blk b cur e)) : BoxAt w b cur e := ⟨hp.blk hi⟩
theorem Hp.boxk {b e : Nat} {cur : Array Value} (hp : Hp [] w0 H w) (hb : BoxAt w0 b cur e) : BoxAt w b cur e := ⟨by
  rw [hp.kept.block b (Array.getElem?_eq_some_iff.1 hb.at').1 (by simp)]; exact hb.at'⟩
theorem hc_box {b o e : Nat} {cur : Array Value} {v : Value} (hb : BoxAt w0 b cur e) (hv : cur[o]? = some v) : ∀ w, Hp [] w0 H w → w.cell? ⟨b, o, none⟩ = some v := fun w c => by
  have := (c.boxk hb).at'
  simp only [World.cell?, this]
  simpa using hv
theorem y_loadz (T : Tabs P) {b e : Nat} {cur : Array Value} {z : List Value} (ht : lk T.sz t = some z) (hx : ev s x = some (.pointer (some ⟨b, 0, none⟩))) (hb : BoxAt w0 b cur e) (hl : Nat.beq cur.size z.length = true) : Y P n (Hp [] w0 H) s (.load t x) ty (.agg cur) := by
  have h := y_loads (P := P) (n := n) (C := Hp [] w0 H) (s := s) (ty := ty) (cs := cur.toList) T ht (by rw [← Nat.eq_of_beq_eq_true hl]; simp) hx (fun w c j v hj => by
    rw [Addr.add_lit]
    exact hc_box hb (by simpa using hj) w c)
  simpa using h
end
section
variable {P : Program} {n : Nat} {M : List Nat} {w0 : World} {K : Act → World → Prop} {ops : Array Oper} {H : List HE} {s : List (Nat × Value)}
theorem stp_callL (i : Nat) {h0 : HE} {f d ty : Nat} {pos : String} {af : Array Edge} {args : Array Operand} {at' : Array Nat} {vs : List Value} {φ : Value → List HE → Prop} (he : Ent P f) (ha : evs s args.toList = some vs) (hd : Nat.blt d n = true) (hi : H[i]? = some h0)
    (hc : ∀ E w M', Lent M w0 h0 (H.eraseIdx i ++ E) M' w → DoesB P f vs w M' φ) :
    Stp P n M w0 ops K H s ⟨some d, .call ⟨.value (.func f), args, at'⟩, ty, pos, af, none⟩ d (fun v H1 => ∃ H0, φ v H0 ∧ H1 = H0 ++ H.eraseIdx i) := fun E X R hR => by
  have hil := (List.getElem?_eq_some_iff.1 hi).1
  refine m_callL i he (evs_sub sub_left ha) hd (by rw [List.getElem?_append_left hil]; exact hi) (fun w M' hl => hc E w M' (by rw [List.eraseIdx_append_of_lt_length hil] at hl; exact hl)) (fun v H' hφ => c_nil (x_one ?_))
  rw [List.eraseIdx_append_of_lt_length hil, ← List.append_assoc]
  exact hR _ _ ⟨H', hφ, rfl⟩
end
theorem range_get {α : Type} : ∀ (l : List α), (List.range l.length).filterMap (fun i => l[i]?) = l
  | [] => rfl
  | x :: l => by
    rw [List.length_cons, List.range_succ_eq_map, List.filterMap_cons, List.filterMap_map]
    have := range_get l
    simpa [Function.comp_def] using this
theorem sel_in {α : Type} (l : List α) : ∀ (is : List Nat), is.filterMap (fun i => l[i]?) = (is.filter (fun i => decide (i < l.length))).filterMap (fun i => l[i]?)
  | [] => rfl
  | i :: is => by
    have ih := sel_in l is
    by_cases h : i < l.length
    · rw [List.filter_cons_of_pos (by simpa using h), List.filterMap_cons, List.filterMap_cons, ih]
    · rw [List.filter_cons_of_neg (by simpa using h), List.filterMap_cons, List.getElem?_eq_none om, ih]
theorem Hp.sel {M : List Nat} {w0 w : World} {H : List HE} (is : List Nat) (hn : decide is.Nodup = true) (hp : Hp M w0 H w) : Hp M w0 (is.filterMap (fun i => H[i]?)) w := by
  have hn' : is.Nodup := of_decide_eq_true hn
  have h1 : (is.filter (fun i => decide (i < H.length)) ++ (List.range H.length).filter (fun i => !is.contains i)).Perm (List.range H.length) := by
    refine (List.perm_ext_iff_of_nodup ?_ List.nodup_range).2 (fun x => ?_)
    · refine List.nodup_append.2 ⟨hn'.filter _, List.nodup_range.filter _, fun a ha b hb e => ?_⟩
      subst e
      simp at ha hb
      exact hb.2 ha.1
    · simp only [List.mem_append, List.mem_filter, decide_eq_true_eq, List.mem_range, Bool.not_eq_true', List.contains_eq_mem, decide_eq_false_iff_not]
      constructor
      · rintro (h | h)
        · exact h.2
        · exact h.1
      · intro h
        by_cases hx : x ∈ is
        · exact .inl ⟨hx, h⟩
        · exact .inr ⟨h, hx⟩
  have h2 := h1.filterMap (fun i => H[i]?)
  rw [range_get, List.filterMap_append, ← sel_in] at h2
  exact (hp.perm h2.symm).sub (List.sublist_append_left _ _)
theorem AT.sel {M : List Nat} {w0 : World} {H : List HE} {n : Nat} {s : List (Nat × Value)} {R : Act → World → Prop} (is : List Nat) (hn : decide is.Nodup = true) (h : AT n (Hp M w0 (is.filterMap (fun i => H[i]?))) s R) : AT n (Hp M w0 H) s R := AT.cls (fun _ c => c.sel is hn) h
section
variable {P : Program} {n : Nat} {C : World → Prop} {s : List (Nat × Value)} {k : Act → World → Prop} {Q : Exit → Act → World → Prop}
end
section
variable {P : Program} {n : Nat} {S C : World → Prop} {s : List (Nat × Value)} {K : Act → World → Prop} {ops : Array Oper} {fuel : Nat} {listed : Array Bool}
theorem h_takey (i : Nat) {op : Op} {d ty j dj : Nat} {pos : String} {af : Array Edge} {v : Value} {b : Bool} (hi : ops[i]? = some ⟨some d, op, ty, pos, af, some (j, b)⟩)
    (hs : Region.noSelect ops = true) (hf : Region.free .any ops listed i = true) (hr : (Region.ready .any ops listed).contains i = true)
    (hj : (ops[j]?).bind (·.dst) = some dj) (hb : lk s dj = some (.bool b)) (hy : Y P n S s op ty v) (hd : Nat.blt d n = true) (hS : ∀ w, C w → S w)
    (h : AT n C ((d, v) :: s) (wpAnyH P .any ops (Qn K) S fuel (listed.setIfInBounds i true))) : AT n C s (wpAnyH P .any ops (Qn K) S (fuel + 1) listed) := fun a w f c =>
  wpAnyH_take hi hs hf hr (fun _ _ _ h => h.elim) (.inl ⟨by simp [Region.wanted, yielded, hj, f.has _ _ hb], fun w' hw' => hy a w' f hw' _ _ _ _⟩) (hS w c) (h _ w (f.put (by simpa [Nat.blt_eq] using hd) v) c)
end
end Go.Lg

namespace Go.Proofs.YtdnhmnnccfoliaaGreatDoor
open Go.Lg Go.Proofs Go.RowKit

theorem sumN_comm {F : Nat → Nat → Int} {m : Nat} : ∀ n, sumN (fun i => sumN (fun j => F i j) m) n = sumN (fun j => sumN (fun i => F i j) n) m
  | 0 => by simp only [sumN]; rw [sumN_zero]
  | n + 1 => by
    simp only [sumN]
    rw [sumN_comm n, ← sumN_add]
theorem sumN_mull {f : Nat → Int} {x : Int} {n : Nat} : sumN (fun i => x * f i) n = x * sumN f n := by
  rw [sumN_congr (g := fun i => f i * x) (fun i _ => Int.mul_comm ..), sumN_mul, Int.mul_comm]
theorem mulF_sum {p : Int} {N : Nat} {f g : Nat → Nat → Int} {i j : Nat} : mulF p N f g i j = sumN (fun k => f i k * g k j) N % p := accF_sum N
theorem mulF_dvd {p : Int} {N : Nat} {f g : Nat → Nat → Int} {i j : Nat} : p ∣ mulF p N f g i j - sumN (fun k => f i k * g k j) N := by
  rw [mulF_sum]; exact emod_sub
theorem emod_dvd {p x y : Int} (h : p ∣ x - y) : x % p = y % p := by
  obtain ⟨c, hc⟩ := h
  have : x = y + p * c := by omega
  rw [this, Int.add_mul_emod_self_left]
theorem mulF_congr {p : Int} {N : Nat} {f f' g g' : Nat → Nat → Int} {i j : Nat} (h : ∀ k, k < N → p ∣ f i k - f' i k) (h' : ∀ k, k < N → p ∣ g k j - g' k j) : mulF p N f g i j = mulF p N f' g' i j := by
  rw [mulF_sum, mulF_sum]
  refine emod_dvd (dvd_sumN (fun k hk => ?_))
  obtain ⟨a, ha⟩ := h k hk
  obtain ⟨b, hb⟩ := h' k hk
  exact ⟨a * g k j + f' i k * b, by grind⟩
theorem mulF_ext {p : Int} {N : Nat} {f f' g g' : Nat → Nat → Int} {i j : Nat} (h : ∀ k, k < N → f i k = f' i k) (h' : ∀ k, k < N → g k j = g' k j) : mulF p N f g i j = mulF p N f' g' i j :=
  mulF_congr (fun k hk => by rw [h k hk, Int.sub_self]; exact Int.dvd_zero p) (fun k hk => by rw [h' k hk, Int.sub_self]; exact Int.dvd_zero p)
theorem mul_assocF {p : Int} {N M : Nat} {f g h : Nat → Nat → Int} {i j : Nat} : mulF p M (mulF p N f g) h i j = mulF p N f (mulF p M g h) i j := by
  rw [mulF_congr (f' := fun i k => sumN (fun q => f i q * g q k) N) (g' := h) (fun k _ => mulF_dvd) (fun k _ => by rw [Int.sub_self]; exact Int.dvd_zero p),
    mulF_congr (f := f) (g := mulF p M g h) (f' := f) (g' := fun q j => sumN (fun k => g q k * h k j) M) (fun k _ => by rw [Int.sub_self]; exact Int.dvd_zero p) (fun k _ => mulF_dvd), mulF_sum, mulF_sum]
  congr 1
  rw [sumN_congr (g := fun k => sumN (fun q => f i q * g q k * h k j) N) (fun k _ => sumN_mul.symm), sumN_comm]
  refine sumN_congr (fun q _ => ?_)
  rw [← sumN_mull]
  exact sumN_congr (fun k _ => Int.mul_assoc ..)
theorem mul_idl {p : Int} {N : Nat} {g : Nat → Nat → Int} {i j : Nat} (hi : i < N) (hg : 0 ≤ g i j ∧ g i j < p) : mulF p N idF g i j = g i j := by
  rw [mulF_sum, sumN_congr (g := fun k => if k = i then g k j else 0) (fun k _ => by
    unfold idF
    by_cases h : i = k
    · rw [if_pos h, if_pos h.symm, Int.one_mul]
    · rw [if_neg h, if_neg (fun e => h e.symm), Int.zero_mul]), sumN_pick (f := fun k => g k j), if_pos hi]
  exact emod_small hg
end Go.Proofs.YtdnhmnnccfoliaaGreatDoor
