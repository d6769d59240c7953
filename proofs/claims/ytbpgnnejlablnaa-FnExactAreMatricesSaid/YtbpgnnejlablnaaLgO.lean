import Derived.Test.YtbpgnnejlablnaaLgN
import Derived.RegionTactic
namespace Go.Lg
open Go.RowKit
section
variable {P : Program} {n : Nat} {C : World → Prop} {s : List (Nat × Value)} {Q : Exit → Act → World → Prop} {ops : Array Oper} {K : Act → World → Prop} {fuel : Nat} {listed : Array Bool}

/-- the exits of one operation of a region that draws its order -/
def Qk (K : Act → World → Prop) (Q : Exit → Act → World → Prop) : Exit → Act → World → Prop
  | .normal => K
  | .exit i => Q (.exit i)
  | .goto l => Q (.goto l)
  | .ret => Q .ret
  | .panic c => Q (.panic c)
  | .outgrown => Q .outgrown
theorem upon_Qk {o : Oper} {a : Act} {next : Act → World → Prop} : ∀ {r : Result Next}, o.upon P a next (Qk K Q) r → o.upon P a next Q r
  | .ok (.value _) _, h => h
  | .ok .skip _, h => h
  | .ok (.defer _) _, h => h
  | .ok (.enter _ _) _, h => Calls.mono h (fun e w'' he => by cases e <;> exact he)
  | .ok (.row _ _) _, h => h
  | .halt x _, h => by cases x <;> exact h
theorem wpOp_list {i : Nat} {o : Oper} {a : Act} {w : World} (ho : ops[i]? = some o) (h : wpList P ops (Qk K Q) [o] a w) : wpOp P ops Q i K a w := by
  unfold wpOp
  rw [ho]
  unfold wpList at h
  show if Region.wanted o (yielded ops a.tmps) = true then _ else _
  split
  · rename_i hw
    rw [if_pos hw] at h
    exact h.imp (fun h => upon_Qk h) id
  · rename_i hw
    rw [if_neg hw] at h
    exact h

/-- what may come next, one by one -/
def AR (P : Program) (n : Nat) (C : World → Prop) (s : List (Nat × Value)) (ops : Array Oper) (Q : Exit → Act → World → Prop) (fuel : Nat) (listed : Array Bool) (rs : List Nat) : Prop :=
  ∀ i ∈ rs, AT n C s (wpOp P ops Q i (wpAny P .any ops Q fuel (listed.setIfInBounds i true)))
theorem w_nil : AR P n C s ops Q fuel listed [] := fun _ h => by cases h
theorem w_cons {i : Nat} {o : Oper} {rs : List Nat} (ho : ops[i]? = some o) (h : AT n C s (wpList P ops (Qk (wpAny P .any ops Q fuel (listed.setIfInBounds i true)) Q) [o]))
    (hs : AR P n C s ops Q fuel listed rs) : AR P n C s ops Q fuel listed (i :: rs) := fun j hj => by
  rcases List.mem_cons.1 hj with rfl | hj
  · exact fun a w f c => wpOp_list ho (h a w f c)
  · exact hs j hj
theorem w_all {i : Nat} {rs : List Nat} (hr : Region.ready .any ops listed = i :: rs) (h : AR P n C s ops Q fuel listed (i :: rs)) : AT n C s (wpAny P .any ops Q (fuel + 1) listed) :=
  fun a w f c => wpAny_all hr (by simp) (fun j hj => h j hj a w f c)
theorem w_done (hr : Region.ready .any ops listed = []) (h : AT n C s (Q .normal)) : AT n C s (wpAny P .any ops Q fuel listed) := fun a w f c => wpAny_done hr (h a w f c) fuel
theorem x_one (h : AT n C s K) : AT n C s (Qk K Q .normal) := h
/-- a region that draws its order, way by way -/
theorem c_ways {id : Nat} {l : List Oper} (hm : P.follows .mixedOrders = true) (hC : ∀ w, C w → C { w with drawn := w.drawn + 1 })
    (h : AT n C s (wpAny P .any l.toArray Q l.length (Array.replicate l.length false))) : AT n C s ((Code.region id l.toArray true).wp P Q) := fun a w f c =>
  wp_region_any hm (by simpa using h a _ f (hC w c))
end
end Go.Lg
