/-
  fluxionref18.Check: the flags against the list.
-/
import Derived.Test.YtpiincgiakkljaaGreatDoorS5
set_option linter.unusedSimpArgs false
set_option linter.unusedVariables false
namespace Go.Proofs.YtpiincgiakkljaaGreatDoor
open Go

structure FRel (n s : Int) (k : List Int) (b : List Bool) : Prop where
  bl : (b.length : Int) = n + 1
  at_ : ∀ j : Nat, (j : Int) ≤ n → b.getD j false = decide ((j : Int) ∈ k)
  nd : k.Nodup
  kl : (k.length : Int) ≤ s

def okV (n : Int) (b : List Bool) (kd at_ : Int) : Bool := if kd = 2 ∨ kd = 3 then decide (0 ≤ at_ ∧ at_ ≤ n ∧ b.getD at_.toNat false = true) else decide (at_ = 0)

theorem getD_bool {b : List Bool} {j : Nat} (h : j < b.length) : (b.map AV.bool).getD j .junk = AV.bool (b.getD j false) := by
  simp [List.getD_eq_getElem?_getD, h]

theorem splice_set {α β : Type} (f : α → β) {b : List α} {j : Nat} (v : α) (h : j < b.length) : splice (b.map f) j [f v] = (b.set j v).map f := by
  unfold splice
  rw [List.set_eq_take_append_cons_drop, if_pos h]
  simp

theorem getD_set {b : List Bool} {j i : Nat} {v : Bool} (h : j < b.length) : (b.set j v).getD i false = if i = j then v else b.getD i false := by
  simp only [List.getD_eq_getElem?_getD, List.getElem?_set]
  by_cases hij : j = i
  · subst hij; simp [h]
  · rw [if_neg hij, if_neg (fun e => hij e.symm)]

theorem tile_false (n : Nat) : tile (List.map constCell (Array.toList (Value.cells (Value.bool false)))) n AV.junk = List.map AV.bool (List.replicate n false) := by
  unfold tile
  apply List.ext_getElem
  · simp
  · intro i h1 h2
    simp at h1
    have : (List.map constCell (Array.toList (Value.cells (Value.bool false)))) = [AV.bool false] := by kernel_rfl
    simp [this, Nat.mod_one]

theorem m1L_bool : ∀ (k : List Bool), AV.m1L (List.map AV.bool k) = true
  | [] => rfl
  | _ :: k => m1L_bool k

theorem idxZ_mem {k : List Int} {x : Int} : 0 ≤ idxZ k x ↔ x ∈ k := by
  unfold idxZ
  split
  · rename_i h; simp [h]
  · rename_i h; simp [h]

theorem idxZ_split {k : List Int} {x : Int} (h : x ∈ k) : k = k.take (idxZ k x).toNat ++ x :: k.drop ((idxZ k x).toNat + 1) := by
  have e : (idxZ k x).toNat = k.idxOf x := by unfold idxZ; rw [if_pos h]; rfl
  rw [e]
  have hlt := List.idxOf_lt_length_of_mem h
  conv => lhs; rw [← List.take_append_drop (k.idxOf x) k, List.drop_eq_getElem_cons hlt, List.getElem_idxOf hlt]

theorem delAt_rel {k : List Int} {x : Int} (hn : k.Nodup) (h : x ∈ k) : (delAt k (idxZ k x).toNat).Nodup ∧ (∀ y, y ∈ delAt k (idxZ k x).toNat ↔ y ∈ k ∧ y ≠ x) ∧ (delAt k (idxZ k x).toNat).length + 1 = k.length := by
  have e := idxZ_split h
  unfold delAt
  generalize k.take (idxZ k x).toNat = a at *
  generalize k.drop ((idxZ k x).toNat + 1) = c at *
  subst e
  rw [List.nodup_append] at hn
  obtain ⟨h1, h2, h3⟩ := hn
  rw [List.nodup_cons] at h2
  refine ⟨?_, fun y => ?_, by simp; omega⟩
  · rw [List.nodup_append]
    exact ⟨h1, h2.2, fun y hy z hz => h3 y hy z (List.mem_cons_of_mem _ hz)⟩
  · simp only [List.mem_append, List.mem_cons]
    constructor
    · rintro (hy | hy)
      · exact ⟨.inl hy, fun e => h3 y hy x List.mem_cons_self e⟩
      · exact ⟨.inr (.inr hy), fun e => h2.1 (e ▸ hy)⟩
    · rintro ⟨hy | hy | hy, hne⟩
      · exact .inl hy
      · exact absurd hy hne
      · exact .inr hy

/-- What an act does to the flags. -/
structure RcSt where
  many : Int
  now : Int
  due : Int
  steps : Int
  o : List Int
  b : List Bool

theorem ok_mem {n s kd at_ : Int} {k : List Int} {b : List Bool} (r : FRel n s k b) (hk : ∀ x ∈ k, 0 ≤ x ∧ x ≤ n) (h : kd = 2 ∨ kd = 3) : okV n b kd at_ = true ↔ at_ ∈ k := by
  unfold okV
  rw [if_pos h, decide_eq_true_eq]
  constructor
  · rintro ⟨h1, h2, h3⟩
    rw [r.at_ at_.toNat (by omega)] at h3
    have := of_decide_eq_true h3
    rwa [show ((at_.toNat : Nat) : Int) = at_ by omega] at this
  · intro hm
    obtain ⟨h1, h2⟩ := hk at_ hm
    refine ⟨h1, h2, ?_⟩
    rw [r.at_ at_.toNat (by omega), show ((at_.toNat : Nat) : Int) = at_ by omega]
    exact decide_eq_true hm

theorem frel_save {n s : Int} {k : List Int} {b : List Bool} {st : Int} (r : FRel n s k b) (h0 : 0 ≤ st) (h1 : st ≤ n) (hm : st ∉ k) (hs : (k.length : Int) < s) : FRel n s (k ++ [st]) (b.set st.toNat true) := by
  have hb := r.bl
  have hlt : st.toNat < b.length := by omega
  refine ⟨by simp; omega, fun j hj => ?_, ?_, by simp; omega⟩
  · rw [getD_set hlt]
    by_cases hjs : j = st.toNat
    · rw [if_pos hjs]
      have : (j : Int) = st := by omega
      simp [this]
    · rw [if_neg hjs, r.at_ j hj]
      have : (j : Int) ≠ st := by omega
      simp [this]
  · rw [List.nodup_append]
    refine ⟨r.nd, by simp, fun x hx y hy => ?_⟩
    rw [List.mem_singleton] at hy
    subst hy
    intro e
    subst e
    exact hm hx

theorem frel_drop {n s : Int} {k : List Int} {b : List Bool} {x : Int} (r : FRel n s k b) (hk : ∀ x ∈ k, 0 ≤ x ∧ x ≤ n) (hm : x ∈ k) : FRel n s (delAt k (idxZ k x).toNat) (b.set x.toNat false) := by
  have hb := r.bl
  obtain ⟨hx0, hx1⟩ := hk x hm
  have hlt : x.toNat < b.length := by omega
  obtain ⟨d1, d2, d3⟩ := delAt_rel r.nd hm
  have := r.kl
  refine ⟨by simp; omega, fun j hj => ?_, d1, by omega⟩
  rw [getD_set hlt]
  by_cases hjs : j = x.toNat
  · rw [if_pos hjs]
    have : (j : Int) = x := by omega
    simp [d2, this]
  · rw [if_neg hjs, r.at_ j hj]
    have : (j : Int) ≠ x := by omega
    simp [d2, this]

theorem sumZ_bump {o : List Int} {j : Nat} (h : j < o.length) : sumZ (bump o j) = sumZ o + 1 := by
  have e : o = o.take j ++ o.getD j 0 :: o.drop (j + 1) := by
    conv => lhs; rw [← List.take_append_drop j o, List.drop_eq_getElem_cons h]
    simp [List.getD_eq_getElem?_getD, h]
  unfold bump splice
  rw [show j + [o.getD j 0 + 1].length = j + 1 from rfl]
  conv => rhs; rw [e]
  simp only [sumZ_append, sumZ]
  omega
end Go.Proofs.YtpiincgiakkljaaGreatDoor
/-
  fluxionref18.Check: an act, in the flags and in the list.
-/
namespace Go.Proofs.YtpiincgiakkljaaGreatDoor
open Go

def nextO (o : List Int) (kd : Int) (h : Hs) : List Int := if kd = 4 then bump o (h.st - 1).toNat else o

set_option maxRecDepth 100000 in
set_option maxHeartbeats 1000000 in
theorem rcS4_ok {m n s kd at_ : Int} {hd : SH} {p : List (Int × Int)} {c : Ctx} {i : Nat} {h : Hs} {o : List Int} {b : List Bool} {x : Bool} {st : St} {Q : Post} (hel : ∀ i t L, c.φ0 i t = some L → i < 0) (hi : i ≤ 4000) (hn : n ≤ 40) (inv : ChInv n i h o) (rel : FRel n s h.k b)
    (hx : x = okV n b kd at_) (hst : st.is (rcMT n s h.k.length h.st h.due i hd p b [(15, .bool x)]) (rcMM (sumZ o) kd at_ o b))
    (hQ : ∀ (y : Bool) (many now due steps : Int) (o2 : List Int) (b2 : List Bool), y = (mayV n s h kd at_).1 → (y = true → many = (mayV n s h kd at_).2.k.length ∧ now = (mayV n s h kd at_).2.st ∧ due = (mayV n s h kd at_).2.due ∧ steps = sumZ o2 ∧ o2 = nextO o kd (mayV n s h kd at_).2 ∧ FRel n s (mayV n s h kd at_).2.k b2) →
      Lf Q .normal (rcNT n s many now due i hd p b2 y) (rcMM steps kd at_ o2 b2)) :
    AWP prog (gl m) 161 c (cp [1,1,1,1,1,0,1,0,0,1,0,0,1,1,1,0] F16) st Q := by
  obtain ⟨hs, hdue, k⟩ := h
  obtain ⟨a1, a2, a3, a4, a5, a6, a7, a8⟩ := inv
  simp only at a1 a2 a3 a4 a5 a6 rel hst
  have hbl := rel.bl
  have hkl := rel.kl
  have bad : ∀ (y : Bool) (many now due steps : Int) (o2 : List Int) (b2 : List Bool), y = false → (mayV n s ⟨hs, hdue, k⟩ kd at_).1 = false → Lf Q .normal (rcNT n s many now due i hd p b2 y) (rcMM steps kd at_ o2 b2) :=
    fun y many now due steps o2 b2 hy hm => hQ y many now due steps o2 b2 (by rw [hy, hm]) (fun e => by rw [hy] at e; cases e)
  refine awp_sx kx0_ok hel ((rcS4_eq m n s k.length hs hdue i (sumZ o) kd at_ x hd p o b _).mpr ?_) hst
  have hnow : hs.toNat < b.length := by omega
  have hg : (List.map AV.bool b).getD hs.toNat AV.junk = AV.bool (b.getD hs.toNat false) := getD_bool hnow
  have hbn : b.getD hs.toNat false = decide (hs ∈ k) := by
    rw [rel.at_ hs.toNat (by omega), show ((hs.toNat : Nat) : Int) = hs by omega]
  simp only [Nat.zero_add, Nat.mul_one, hg, getB, hbn, List.length_map, true_and]
  refine ⟨fun h1 => ⟨fun hx1 => ⟨by omega, by omega, by omega, fun hc => ⟨fun hms => ⟨by omega, by omega, by omega, ?_⟩, fun hms => ?_⟩, fun hc => ?_⟩, fun hx1 => ?_⟩, fun h1 => ⟨fun h2 => ⟨fun hx1 => ?_, fun hx1 => ?_⟩, fun h2 => ⟨fun h3 => ⟨fun hx1 => ?_, fun hx1 => ?_⟩, fun h3 => ⟨fun h4 => ⟨fun hx1 => ⟨fun hlt => ?_, fun hlt => ?_⟩, fun hx1 => ?_⟩, fun h4 => ⟨fun h5 => ⟨fun hx1 => ⟨fun hd1 => ⟨fun he => ?_, fun he => ?_⟩, fun hd1 => ?_⟩, fun hx1 => ?_⟩, fun h5 => ?_⟩⟩⟩⟩⟩
  · -- save, done
    have e1 : kd = 1 := by simpa using h1
    have e2 : at_ = 0 := by
      rw [hx, okV, if_neg (by omega)] at hx1
      exact of_decide_eq_true hx1
    have e3 : hs ∉ k := by simpa using hc
    have e4 : (k.length : Int) < s := of_decide_eq_true hms
    have hm : mayV n s ⟨hs, hdue, k⟩ kd at_ = (true, ⟨hs, hdue, k ++ [hs]⟩) := by
      rw [mayV, if_neg (by omega), if_pos e1, if_neg]
      rintro (h | h)
      · simp only at h; omega
      · exact e3 (idxZ_mem.1 h)
    have hw : IntKind.wrap IntKind.i64 ((k.length : Int) + 1) = ((k ++ [hs]).length : Int) := by rw [wrap_ok (by omega) (by omega)]; simp
    rw [splice_set AV.bool true hnow, hw, hms]
    have hl : b.length = (b.set hs.toNat true).length := by simp
    rw [hl]
    exact hQ true _ hs hdue (sumZ o) o (b.set hs.toNat true) (by rw [hm]) (fun _ => ⟨by rw [hm], by rw [hm], by rw [hm], rfl, by rw [nextO, if_neg (by omega)], by rw [hm]; exact frel_save rel a1 a2 e3 e4⟩)
  · have e1 : kd = 1 := by simpa using h1
    have e4 : ¬ (k.length : Int) < s := of_decide_eq_false hms
    rw [hms]
    refine bad _ _ _ _ _ _ _ rfl ?_
    rw [hx, okV, if_neg (by omega)] at hx1
    have e2 : at_ = 0 := of_decide_eq_true hx1
    rw [mayV, if_neg (by omega), if_pos e1, if_pos (.inl (by simp only; omega))]
  · have e1 : kd = 1 := by simpa using h1
    have e3 : hs ∈ k := by simpa using hc
    refine bad _ _ _ _ _ _ _ rfl ?_
    rw [hx, okV, if_neg (by omega)] at hx1
    have e2 : at_ = 0 := of_decide_eq_true hx1
    rw [mayV, if_neg (by omega), if_pos e1, if_pos (.inr (idxZ_mem.2 e3))]
  · have e1 : kd = 1 := by simpa using h1
    rw [hx, okV, if_neg (by omega)] at hx1
    have e2 : ¬ at_ = 0 := of_decide_eq_false hx1
    refine bad _ _ _ _ _ _ _ rfl ?_
    rw [mayV, if_pos (by omega)]
  · -- load
    have e1 : kd = 2 := by simpa using h2
    rw [hx] at hx1
    have e2 := (ok_mem (kd := kd) rel a5 (.inl e1)).1 hx1
    have hm : mayV n s ⟨hs, hdue, k⟩ kd at_ = (true, ⟨at_, hdue, k⟩) := by
      rw [mayV, if_neg (by omega), if_neg (by omega), if_pos e1, if_neg (by have := idxZ_mem.2 e2; simp only; omega)]
    rw [hx, hx1]
    exact hQ true _ at_ hdue (sumZ o) o b (by rw [hm]) (fun _ => ⟨by rw [hm], by rw [hm], by rw [hm], rfl, by rw [nextO, if_neg (by omega)], by rw [hm]; exact rel⟩)
  · have e1 : kd = 2 := by simpa using h2
    rw [hx] at hx1 ⊢
    have e2 : ¬ at_ ∈ k := fun h => by have := (ok_mem (kd := kd) rel a5 (.inl e1)).2 h; rw [hx1] at this; cases this
    refine bad _ _ _ _ _ _ _ hx1 ?_
    rw [mayV, if_neg (by omega), if_neg (by omega), if_pos e1, if_pos (by
      have h1 : ¬ 0 ≤ idxZ k at_ := fun h => e2 (idxZ_mem.1 h)
      simp only
      omega)]
  · -- drop
    have e1 : kd = 3 := by simpa using h3
    rw [hx] at hx1
    have e2 := (ok_mem (kd := kd) rel a5 (.inr e1)).1 hx1
    have hm : mayV n s ⟨hs, hdue, k⟩ kd at_ = (true, ⟨hs, hdue, delAt k (idxZ k at_).toNat⟩) := by
      rw [mayV, if_neg (by omega), if_neg (by omega), if_neg (by omega), if_pos e1, if_neg (by have := idxZ_mem.2 e2; simp only; omega)]
    obtain ⟨b1, b2⟩ := a5 at_ e2
    have hlt : at_.toNat < b.length := by omega
    obtain ⟨d1, d2, d3⟩ := delAt_rel rel.nd e2
    have hw : IntKind.wrap IntKind.i64 ((k.length : Int) - 1) = ((delAt k (idxZ k at_).toNat).length : Int) := by rw [wrap_ok (by omega) (by omega)]; omega
    rw [splice_set AV.bool false hlt, hw, hx, hx1]
    have hl : b.length = (b.set at_.toNat false).length := by simp
    refine ⟨by omega, by omega, by omega, ?_⟩
    rw [hl]
    exact hQ true _ hs hdue (sumZ o) o (b.set at_.toNat false) (by rw [hm]) (fun _ => ⟨by rw [hm], by rw [hm], by rw [hm], rfl, by rw [nextO, if_neg (by omega)], by rw [hm]; exact frel_drop rel a5 e2⟩)
  · have e1 : kd = 3 := by simpa using h3
    rw [hx] at hx1 ⊢
    have e2 : ¬ at_ ∈ k := fun h => by have := (ok_mem (kd := kd) rel a5 (.inr e1)).2 h; rw [hx1] at this; cases this
    refine bad _ _ _ _ _ _ _ hx1 ?_
    rw [mayV, if_neg (by omega), if_neg (by omega), if_neg (by omega), if_pos e1, if_pos (by
      have h1 : ¬ 0 ≤ idxZ k at_ := fun h => e2 (idxZ_mem.1 h)
      simp only
      omega)]
  · -- step
    have e1 : kd = 4 := by simpa using h4
    rw [hx, okV, if_neg (by omega)] at hx1
    have e2 : at_ = 0 := of_decide_eq_true hx1
    have e3 : hs < n := of_decide_eq_true hlt
    have hm : mayV n s ⟨hs, hdue, k⟩ kd at_ = (true, ⟨hs + 1, hdue, k⟩) := by
      rw [mayV, if_neg (by omega), if_neg (by omega), if_neg (by omega), if_neg (by omega), if_pos e1, if_neg (by simp only; omega)]
    have ho : hs.toNat < o.length := by omega
    have hoe := a8 (o.getD hs.toNat 0) (by
      rw [List.getD_eq_getElem?_getD, List.getElem?_eq_getElem ho]
      exact List.getElem_mem ho)
    have hso := sumZ_bound (B := 4000) (o := o) fun y hy => ⟨(a8 y hy).1, by have := (a8 y hy).2; omega⟩
    have hol : (o.length : Int) * 4000 ≤ 160000 := by omega
    have hw1 : IntKind.wrap IntKind.i64 (hs + 1) = hs + 1 := wrap_ok (by omega) (by omega)
    have hw2 : IntKind.wrap IntKind.i64 (o.getD hs.toNat 0 + 1) = o.getD hs.toNat 0 + 1 := wrap_ok (by omega) (by omega)
    have hw3 : IntKind.wrap IntKind.i64 (sumZ o + 1) = sumZ (bump o hs.toNat) := by rw [sumZ_bump ho]; exact wrap_ok (by omega) (by omega)
    have hgo : (List.map vi o).getD hs.toNat AV.junk = vi (o.getD hs.toNat 0) := getD_vi ho
    have hgi : getI (vi (o.getD hs.toNat 0)) = o.getD hs.toNat 0 := rfl
    have hbu : splice (List.map vi o) hs.toNat [vi (o.getD hs.toNat 0 + 1)] = List.map vi (bump o hs.toNat) := splice_bump
    simp only [hgo, hgi, hw1, hw2, hw3, hbu, vi_eq]
    rw [hlt]
    have hl : o.length = (bump o hs.toNat).length := (bump_length ho).symm
    refine ⟨by omega, by omega, by omega, trivial, by omega, by omega, by omega, ?_⟩
    rw [hl]
    exact hQ true _ (hs + 1) hdue _ (bump o hs.toNat) b (by rw [hm]) (fun _ => ⟨by rw [hm], by rw [hm], by rw [hm], rfl, by rw [nextO, if_pos e1, hm]; simp only; rw [show hs + 1 - 1 = hs by omega], by rw [hm]; exact rel⟩)
  · have e1 : kd = 4 := by simpa using h4
    rw [hx, okV, if_neg (by omega)] at hx1
    have e2 : at_ = 0 := of_decide_eq_true hx1
    have e3 : ¬ hs < n := of_decide_eq_false hlt
    rw [hlt]
    refine bad _ _ _ _ _ _ _ rfl ?_
    rw [mayV, if_neg (by omega), if_neg (by omega), if_neg (by omega), if_neg (by omega), if_pos e1, if_pos (by simp only; omega)]
  · have e1 : kd = 4 := by simpa using h4
    rw [hx, okV, if_neg (by omega)] at hx1
    have e2 : ¬ at_ = 0 := of_decide_eq_false hx1
    refine bad _ _ _ _ _ _ _ rfl ?_
    rw [mayV, if_pos (by omega)]
  · -- turn
    have e1 : kd = 5 := by simpa using h5
    rw [hx, okV, if_neg (by omega)] at hx1
    have e2 : at_ = 0 := of_decide_eq_true hx1
    have e3 : hdue > 0 := of_decide_eq_true hd1
    have hw : IntKind.wrap IntKind.i64 (hdue - 1) = hdue - 1 := wrap_ok (by omega) (by omega)
    rw [hw] at he ⊢
    have e4 : hs = hdue - 1 := by simpa using he
    have hm : mayV n s ⟨hs, hdue, k⟩ kd at_ = (true, ⟨hs, hdue - 1, k⟩) := by
      rw [mayV, if_neg (by omega), if_neg (by omega), if_neg (by omega), if_neg (by omega), if_neg (by omega), if_pos e1, if_neg (by simp only; omega)]
    rw [he]
    exact hQ true _ hs (hdue - 1) (sumZ o) o b (by rw [hm]) (fun _ => ⟨by rw [hm], by rw [hm], by rw [hm], rfl, by rw [nextO, if_neg (by omega)], by rw [hm]; exact rel⟩)
  · have e1 : kd = 5 := by simpa using h5
    rw [hx, okV, if_neg (by omega)] at hx1
    have e2 : at_ = 0 := of_decide_eq_true hx1
    have e3 : hdue > 0 := of_decide_eq_true hd1
    have hw : IntKind.wrap IntKind.i64 (hdue - 1) = hdue - 1 := wrap_ok (by omega) (by omega)
    rw [hw] at he ⊢
    have e4 : ¬ hs = hdue - 1 := by simpa using he
    rw [he]
    refine bad _ _ _ _ _ _ _ rfl ?_
    rw [mayV, if_neg (by omega), if_neg (by omega), if_neg (by omega), if_neg (by omega), if_neg (by omega), if_pos e1, if_pos (by simp only; omega)]
  · have e1 : kd = 5 := by simpa using h5
    rw [hx, okV, if_neg (by omega)] at hx1
    have e2 : at_ = 0 := of_decide_eq_true hx1
    have e3 : ¬ hdue > 0 := of_decide_eq_false hd1
    refine bad _ _ _ _ _ _ _ rfl ?_
    rw [mayV, if_neg (by omega), if_neg (by omega), if_neg (by omega), if_neg (by omega), if_neg (by omega), if_pos e1, if_pos (by simp only; omega)]
  · have e1 : kd = 5 := by simpa using h5
    rw [hx, okV, if_neg (by omega)] at hx1
    have e2 : ¬ at_ = 0 := of_decide_eq_false hx1
    refine bad _ _ _ _ _ _ _ rfl ?_
    rw [mayV, if_pos (by omega)]
  · refine bad _ _ _ _ _ _ _ rfl ?_
    have q1 : ¬ kd = 1 := by simpa using h1
    have q2 : ¬ kd = 2 := by simpa using h2
    have q3 : ¬ kd = 3 := by simpa using h3
    have q4 : ¬ kd = 4 := by simpa using h4
    have q5 : ¬ kd = 5 := by simpa using h5
    by_cases hh : at_ ≠ 0 ∧ kd ≠ 2 ∧ kd ≠ 3
    · rw [mayV, if_pos hh]
    · rw [mayV, if_neg hh, if_neg q1, if_neg q2, if_neg q3, if_neg q4, if_neg q5]
end Go.Proofs.YtpiincgiakkljaaGreatDoor
/-
  fluxionref18.Check: its contract.
-/
namespace Go.Proofs.YtpiincgiakkljaaGreatDoor
open Go

noncomputable def resR (r : List Int × Int × Int) : AV := .agg [vi (sumZ r.1), vi r.2.1, vi r.2.2, .ds {} (r.1.map vi) r.1.length]

theorem mm_hfL (l : List Slot) : (mm l).h.hf = fun k => l.getD k .free := funext (mm_hf l)

theorem rc_err (x y : Int) (l : List Slot) : Lf (FinL prog Tryz.f16 (resR ([], x, y))) .ret (few [(6, AV.ra 0 0 4)]) (mm (.blk ⟨[vi 0, vi x, vi y, .nils], 4, false, false, some 39⟩ :: l)) :=
  finL_le (a2 := .agg [vi 0, vi x, vi y, .nils]) (AVle.agg (.cons (AVle.refl _) (.cons (AVle.refl _) (.cons (AVle.refl _) (.cons AVle.nils .nil))))) [.agg [vi 0, vi x, vi y, .nils]] [] (by rw [mm_hfL]; kernel_rfl) (by rfl)

theorem rc_ok (o : List Int) (s3 s4 : Slot) : Lf (FinL prog Tryz.f16 (resR (o, 0, 0))) .ret (few [(6, AV.ra 0 0 4)]) (mm [.blk ⟨[vi (sumZ o), vi 0, vi 0, .rs 1 0 o.length o.length none], 4, false, false, some 39⟩, listB o, s3, s4]) := by
  obtain ⟨u, hu⟩ := frzD_rs (h := (mm [.blk ⟨[vi (sumZ o), vi 0, vi 0, .rs 1 0 o.length o.length none], 4, false, false, some 39⟩, listB o, s3, s4]).h.hf) 10 (i := 1) (len := o.length) (cap := none) (cells := o.map vi) (esz := 1) (ao := false) (fx := false) (ty := none) (by rw [mm_hf]; rfl) (flat_vi o .i64) (by simp)
  rw [List.length_map] at hu
  refine finL_ret (a := resR (o, 0, 0)) [.agg [vi (sumZ o), vi 0, vi 0, .rs 1 0 o.length o.length none]] (u ++ []) (by rw [mm_hfL]; kernel_rfl) ?_
  have h0 : ∀ (h : Heap) (x : Int), frzD 11 h (vi x) = some (vi x, []) := fun h x => frzD_flat 11 rfl
  show (frzDL (frzD 11) _ _).map _ = _
  have e := frzDL_cons (u := []) (h0 (mm [.blk ⟨[vi (sumZ o), vi 0, vi 0, .rs 1 0 o.length o.length none], 4, false, false, some 39⟩, listB o, s3, s4]).h.hf (sumZ o)) (frzDL_cons (u := []) (h0 _ 0) (frzDL_cons (u := []) (h0 _ 0) (frzDL_cons (l := []) hu (l' := []) (u' := []) rfl)))
  rw [e]
  rfl

def RcI (n s : Int) (p : List (Int × Int)) (R : List Int × Int × Int) (a : Nat × Hs × List Int × List Bool) : Prop :=
  a.1 ≤ p.length ∧ checkL n s p.length (p.drop a.1) a.1 a.2.1 a.2.2.1 = R ∧ ChInv n a.1 a.2.1 a.2.2.1 ∧ FRel n s a.2.1.k a.2.2.2

set_option maxRecDepth 100000 in
theorem F16_split : F16 = .seq (cp [0] F16) (.seq (cp [1,0] F16) (.seq (cp [1,1,0] F16) (.seq (cp [1,1,1,0] F16) (.seq (cp [1,1,1,1,0] F16) (.seq (.seq (cp [1,1,1,1,1,0,0] F16) (.block 0 (.loop (.seq (cp [1,1,1,1,1,0,1,0,0,0] F16) (.seq (.block 1 (.seq (cp [1,1,1,1,1,0,1,0,0,1,0,0,0] F16) (.seq (cp [1,1,1,1,1,0,1,0,0,1,0,0,1,0] F16) (.seq (cp [1,1,1,1,1,0,1,0,0,1,0,0,1,1,0] F16) (.seq (cp [1,1,1,1,1,0,1,0,0,1,0,0,1,1,1,0] F16) (cp [1,1,1,1,1,0,1,0,0,1,0,0,1,1,1,1] F16)))))) (cp [1,1,1,1,1,0,1,0,0,1,1] F16)))))) (cp [1,1,1,1,1,1] F16)))))) := by kernel_rfl

set_option maxRecDepth 100000 in
theorem rcS2_ok {m n s many now due steps kd at_ : Int} {hd : SH} {p : List (Int × Int)} {c : Ctx} {i : Nat} {o : List Int} {b : List Bool} {st : St} {Q : Post} (hel : ∀ i t L, c.φ0 i t = some L → i < 0)
    (hst : st.is (rcMT n s many now due i hd p b []) (rcMM steps kd at_ o b)) (hQ : Lf Q .normal (rcMT n s many now due i hd p b [(14, .bool (decide (kd = 2 ∨ kd = 3)))]) (rcMM steps kd at_ o b)) :
    AWP prog (gl m) 161 c (cp [1,1,1,1,1,0,1,0,0,1,0,0,1,0] F16) st Q := by
  refine awp_sx kx0_ok hel ((rcS2_eq m n s many now due i steps kd at_ hd p o b _).mpr ⟨fun h => ?_, fun h => ?_⟩) hst
  · have h' : kd = 2 := by simpa using h
    rw [decide_eq_true (.inl h')] at hQ
    exact hQ
  · have h' : ¬ kd = 2 := by simpa using h
    have e : decide (kd = 2 ∨ kd = 3) = (kd == 3) := by
      by_cases h3 : kd = 3
      · simp [h3]
      · simp [h3, h']
    rw [e] at hQ
    exact hQ

set_option maxRecDepth 100000 in
theorem rcS3_ok {m n s many now due steps kd at_ : Int} {hd : SH} {p : List (Int × Int)} {c : Ctx} {i : Nat} {o : List Int} {b : List Bool} {st : St} {Q : Post} (hel : ∀ i t L, c.φ0 i t = some L → i < 0) (hb : (b.length : Int) = n + 1)
    (hst : st.is (rcMT n s many now due i hd p b [(14, .bool (decide (kd = 2 ∨ kd = 3)))]) (rcMM steps kd at_ o b)) (hQ : Lf Q .normal (rcMT n s many now due i hd p b [(15, .bool (okV n b kd at_))]) (rcMM steps kd at_ o b)) :
    AWP prog (gl m) 161 c (cp [1,1,1,1,1,0,1,0,0,1,0,0,1,1,0] F16) st Q := by
  obtain ⟨x, hx⟩ : ∃ x, x = decide (kd = 2 ∨ kd = 3) := ⟨_, rfl⟩
  rw [← hx] at hst
  have fin : ∀ y : Bool, okV n b kd at_ = y → Lf Q .normal (rcMT n s many now due i hd p b [(15, .bool y)]) (rcMM steps kd at_ o b) := fun y e => by rw [← e]; exact hQ
  have hno : x = false → okV n b kd at_ = (at_ == 0) := fun e => by
    rw [e] at hx
    have : ¬ (kd = 2 ∨ kd = 3) := of_decide_eq_false hx.symm
    rw [okV, if_neg this]
    rfl
  have hyes : x = true → okV n b kd at_ = decide (0 ≤ at_ ∧ at_ ≤ n ∧ b.getD at_.toNat false = true) := fun e => by
    rw [e] at hx
    have : kd = 2 ∨ kd = 3 := of_decide_eq_true hx.symm
    rw [okV, if_pos this]
  refine awp_sx kx0_ok hel ((rcS3_eq m n s many now due i steps kd at_ x hd p o b _).mpr ⟨fun hx1 => ⟨fun h0 => ⟨fun h1 => ?_, fun h1 => ⟨fun h2 => ?_, fun h2 => ?_⟩⟩, fun h0 => ⟨fun h2 => ?_, fun h2 => ?_⟩⟩, fun hx1 => ⟨fun h2 => ?_, fun h2 => ?_⟩⟩) hst
  · have g0 : at_ ≥ 0 := of_decide_eq_true h0
    have g1 : at_ ≤ n := of_decide_eq_true h1
    refine ⟨by omega, by omega, by simp, by simp; omega, ?_, fun h2 => ?_, fun h2 => ⟨fun h3 => ?_, fun h3 => ?_⟩⟩
    · rw [Nat.zero_add, Nat.mul_one]
      exact getD_bool (by omega)
    · exact fin true (by rw [hyes hx1, decide_eq_true ⟨g0, g1, h2⟩])
    · rw [hx1] at h3; cases h3
    · exact fin false (by rw [hyes hx1, decide_eq_false (fun h => by rw [h2] at h; cases h.2.2)])
  · rw [hx1] at h2; cases h2
  · have g1 : ¬ at_ ≤ n := of_decide_eq_false h1
    exact fin false (by rw [hyes hx1, decide_eq_false (fun h => g1 h.2.1)])
  · rw [hx1] at h2; cases h2
  · have g1 : ¬ at_ ≥ 0 := of_decide_eq_false h0
    exact fin false (by rw [hyes hx1, decide_eq_false (fun h => g1 h.1)])
  · exact fin _ (hno hx1)
  · rw [hx1] at h2; cases h2

set_option maxRecDepth 100000 in
set_option maxHeartbeats 1000000 in
theorem refCheck_hasL (m n s : Int) (hd : SH) (p : List (Int × Int)) (hn : 1 ≤ n) (hn2 : n ≤ 40) (hs0 : 0 ≤ s) : HasL prog (gl m) 16 [dA hd p, vi n, vi s] (resR (checkV n s p)) := by
  refine hasL_sx Tryz.func16 (code := F16) (by kernel_rfl) (of_decide_eq_true (by kernel_rfl)) fun c st hel hs => ?_
  rw [F16_split]
  refine awp_seq (awp_sx kx0_ok hel ((rcA_eq m n s hd p _).mpr fun st1 h1 => ?_) hs)
  refine awp_seq (awp_sx kx0_ok hel ((rcB_eq m n s hd p _).mpr ⟨fun hb => ?_, fun hb st2 h2 => ?_⟩) h1)
  · have hb' : 4000 < p.length := by have := of_decide_eq_true hb; omega
    rw [checkV, if_pos hb']
    exact rc_err 0 3 []
  have hp : p.length ≤ 4000 := by have := of_decide_eq_false hb; omega
  have hR : checkV n s p = checkL n s p.length p 0 ⟨0, n, []⟩ (List.replicate n.toNat 0) := by rw [checkV, if_neg (by omega)]
  generalize checkV n s p = R at *
  obtain ⟨o0, ho⟩ : ∃ o0, o0 = List.replicate n.toNat (0 : Int) := ⟨_, rfl⟩
  have hlen : n.toNat = o0.length := by simp [ho]
  have hw : IntKind.wrap IntKind.i64 (n + 1) = n + 1 := wrap_ok (by omega) (by omega)
  obtain ⟨b0, hb0⟩ : ∃ b0, b0 = List.replicate (n + 1).toNat false := ⟨_, rfl⟩
  have hblen : (n + 1).toNat = b0.length := by simp [hb0]
  rw [← ho] at hR
  refine awp_seq (awp_sx kx0_ok hel ((rcC_eq m n s hd p _).mpr ⟨by omega, by omega, by omega, by omega, ?_⟩) h2)
  rw [Nat.mul_one, tile_zero, ← ho, hlen]
  intro st3 h3
  refine awp_seq (awp_sx kx0_ok hel ((rcD_eq m n s hd p o0 _).mpr ?_) h3)
  rw [hw]
  refine ⟨by omega, by omega, by omega, by omega, ?_⟩
  rw [Nat.mul_one, tile_false, ← hb0, hblen]
  intro st4 h4
  refine awp_seq (awp_sx kx0_ok hel ((rcE_eq m n s hd p o0 b0 _).mpr fun st5 h5 => ?_) h4)
  refine awp_seq (awp_seq (awp_sx kx0_ok hel ((rcF_eq m n s hd p o0 b0 _).mpr fun st6 h6 => ?_) h5))
  have hz : sumZ o0 = 0 := by
    rw [ho]
    generalize n.toNat = q
    induction q with
    | zero => rfl
    | succ q ih => rw [List.replicate_succ, sumZ, ih]; rfl
  have inv0 : ChInv n 0 ⟨0, n, []⟩ o0 := ⟨by simp, by simp; omega, by simp; omega, by simp, by simp, by simp, by omega, fun x hx => by
      rw [ho] at hx
      have := List.eq_of_mem_replicate hx
      omega⟩
  have rel0 : FRel n s [] b0 := ⟨by omega, fun j hj => by
      rw [hb0]
      simp only [List.getD_eq_getElem?_getD, List.getElem?_replicate]
      split <;> simp, by simp, by simpa using hs0⟩
  refine awp_block (awp_loop_sx (α := Nat × Hs × List Int × List Bool) (RcI n s p R) (fun a => rcLT n s a.2.1.k.length a.2.1.st a.2.1.due a.1 hd p a.2.2.2) (fun a => rcLM (sumZ a.2.2.1) a.2.2.1 a.2.2.2) (fun a => p.length - a.1) (fun a st hI hst => ?_) (a := (0, ⟨0, n, []⟩, o0, b0))
    ⟨by simp, hR.symm, inv0, rel0⟩ (by simp only; rw [hz]; exact h6))
  obtain ⟨i, h, o, b⟩ := a
  obtain ⟨hi, hres, inv, rel⟩ := hI
  simp only at hi hres inv rel hst ⊢
  refine awp_seq (awp_sx kx0_ok hel ((rcS0_eq m n s h.k.length h.st h.due i (sumZ o) hd p o b _).mpr ⟨fun hlt st7 h7 => ?_, fun hge st7 h7 => ?_⟩) hst)
  · have hlt' : i < p.length := by have := of_decide_eq_true hlt; omega
    have hdrop : p.drop i = p[i] :: p.drop (i + 1) := List.drop_eq_getElem_cons hlt'
    rw [hdrop, checkL] at hres
    rcases hpi : p[i] with ⟨kd, at_⟩
    rw [hpi] at hres hdrop
    simp only at hres
    have hd2 : (eA p).drop (i * 2) = vi kd :: vi at_ :: eA (p.drop (i + 1)) := by rw [eA_drop, hdrop]; rfl
    refine awp_seq (awp_block (awp_seq (awp_sx kx0_ok hel ((rcS1_eq m n s h.k.length h.st h.due i (sumZ o) kd at_ hd p o b _).mpr ?_) h7)))
    rw [Int.toNat_natCast, hd2, eA_length]
    refine ⟨by omega, by omega, by omega, by simp, rfl, rfl, fun st8 h8 => ?_⟩
    refine awp_seq (rcS2_ok hel h8 fun st9 h9 => ?_)
    refine awp_seq (rcS3_ok hel rel.bl h9 fun st10 h10 => ?_)
    refine awp_seq (rcS4_ok hel (by omega) hn2 inv rel rfl h10 fun y many now due steps o2 b2 hy hyt st11 h11 => ?_)
    rcases hm : mayV n s h kd at_ with ⟨z, h2⟩
    rw [hm] at hres hyt hy
    simp only at hy
    subst hy
    refine awp_sx kx0_ok hel ((rcS5_eq m n s many now due i steps kd at_ y hd p o2 b2 _).mpr ⟨fun hf => ?_, fun hf => ?_⟩) h11
    · have hy : y = false := by simpa using hf
      subst hy
      simp only at hres
      rw [← hres]
      exact rc_err i 10 _
    · have hy : y = true := by simpa using hf
      subst hy
      simp only at hres
      obtain ⟨e1, e2, e3, e4, e5, rel2⟩ := hyt rfl
      simp only at e1 e2 e3 e4 e5 rel2
      obtain ⟨inv2, inv3⟩ := may_inv inv hm
      have hwi : IntKind.wrap IntKind.i64 ((i : Int) + 1) = ((i + 1 : Nat) : Int) := by rw [wrap_ok (by omega) (by omega)]; omega
      refine ⟨m1L_vi _, m1L_bool _, fun st12 h12 => ?_⟩
      refine awp_sx kx0_ok hel ((rcS6_eq m n s many now due i steps hd p o2 b2 _).mpr ?_) h12
      rw [hwi]
      have e6 : o2 = if kd = 4 then bump o (h2.st - 1).toNat else o := e5
      rw [← e6] at hres inv2
      subst e1 e2 e3 e4
      exact fun st13 h13 => ⟨(i + 1, h2, o2, b2), ⟨by simp only; omega, hres, inv2, rel2⟩, by simp only; omega, h13⟩
  · have hie : i = p.length := by have := of_decide_eq_false hge; omega
    subst hie
    rw [List.drop_length, checkL] at hres
    refine awp_sx kx0_ok hel ((rcG_eq m n s h.k.length h.st h.due p.length (sumZ o) hd p o b _).mpr ⟨fun hb => ?_, fun hb => ?_⟩) h7
    · have hb' : h.due > 0 := of_decide_eq_true hb
      rw [if_pos hb'] at hres
      rw [← hres]
      exact rc_err p.length 10 _
    · have hb' : ¬ h.due > 0 := of_decide_eq_false hb
      rw [if_neg hb'] at hres
      rw [← hres]
      exact rc_ok o _ _
end Go.Proofs.YtpiincgiakkljaaGreatDoor
/-
  ReplayChecks as the code says it.
-/
namespace Go.Proofs.YtpiincgiakkljaaGreatDoor
open Go

noncomputable def kCut (p : List (Int × Int)) : KX := kL 12 fun l => match l with
  | [.ds _ cells len] => some (dA {} (p.take 4001), [.p (cells = eA p), .p (len = p.length)])
  | _ => none
theorem kCut_ok (m : Int) (p : List (Int × Int)) : KxOk prog (gl m) (kCut p) := kL_ok fun l v cs h hc => by
  split at h
  · rename_i hd cells len
    cases h
    simp only [List.mem_cons, List.mem_nil_iff, or_false, forall_eq_or_imp, forall_eq, Cd.ok] at hc
    obtain ⟨c1, c2⟩ := hc
    subst c1 c2
    exact cut_hasL m hd p
  · cases h

noncomputable def kChk (p : List (Int × Int)) (x a e : Int) : KX := kL 13 fun l => match l with
  | [.ds _ cells len, .int .i64 n, .int .i64 s] => some (.tup [vi x, vi a, vi e], [.p (cells = eA p), .p (len = p.length), .p (ChkV n s p = (x, a, e))])
  | _ => none
theorem kChk_ok (m : Int) (p : List (Int × Int)) (x a e : Int) : KxOk prog (gl m) (kChk p x a e) := kL_ok fun l v cs h hc => by
  split at h
  · rename_i hd cells len n s
    cases h
    simp only [List.mem_cons, List.mem_nil_iff, or_false, forall_eq_or_imp, forall_eq, Cd.ok] at hc
    obtain ⟨c1, c2, c4⟩ := hc
    have := Check_hasL m n s hd p
    rw [c4] at this
    subst c1 c2
    exact this
  · cases h

noncomputable def kOft (p : List (Int × Int)) (o : List Int) (e : Int) : KX := kL 14 fun l => match l with
  | [.ds _ cells len, .int .i64 n, .int .i64 s] => some (.tup [.ds {} (o.map vi) o.length, vi e], [.p (cells = eA p), .p (len = p.length), .p (OftV n s p = (o, e))])
  | _ => none
theorem kOft_ok (m : Int) (p : List (Int × Int)) (o : List Int) (e : Int) : KxOk prog (gl m) (kOft p o e) := kL_ok fun l v cs h hc => by
  split at h
  · rename_i hd cells len n s
    cases h
    simp only [List.mem_cons, List.mem_nil_iff, or_false, forall_eq_or_imp, forall_eq, Cd.ok] at hc
    obtain ⟨c1, c2, c4⟩ := hc
    have := Often_hasL m n s hd p
    rw [c4] at this
    subst c1 c2
    exact this
  · cases h

noncomputable def kBad (b : Bool) : KX := kL 15 fun l => match l with
  | [.int .i64 n, .int .i64 s] => some (.bool b, [.p (decide (badP n s) = b)])
  | _ => none
theorem kBad_ok (m : Int) (b : Bool) : KxOk prog (gl m) (kBad b) := kL_ok fun l v cs h hc => by
  split at h
  · rename_i n s
    cases h
    simp only [List.mem_cons, List.mem_nil_iff, or_false, forall_eq_or_imp, forall_eq, Cd.ok] at hc
    have := Bad_hasL m n s
    rw [hc] at this
    exact this
  · cases h

noncomputable def kRef (p : List (Int × Int)) (o : List Int) (a e : Int) : KX := kL 16 fun l => match l with
  | [.ds _ cells len, .int .i64 n, .int .i64 s] => some (.agg [vi (sumZ o), vi a, vi e, .ds {} (o.map vi) o.length], [.p (cells = eA p), .p (len = p.length), .p (1 ≤ n ∧ n ≤ 40 ∧ 0 ≤ s), .p (checkV n s p = (o, a, e))])
  | _ => none
theorem kRef_ok (m : Int) (p : List (Int × Int)) (o : List Int) (a e : Int) : KxOk prog (gl m) (kRef p o a e) := kL_ok fun l v cs h hc => by
  split at h
  · rename_i hd cells len n s
    cases h
    simp only [List.mem_cons, List.mem_nil_iff, or_false, forall_eq_or_imp, forall_eq, Cd.ok] at hc
    obtain ⟨c1, c2, c3, c4⟩ := hc
    have := refCheck_hasL m n s hd p c3.1 c3.2.1 c3.2.2
    rw [c4] at this
    subst c1 c2
    exact this
  · cases h

noncomputable def kInts (xs ys : List Int) : KX := kL 17 fun l => match l with
  | [.ds _ c1 l1, .ds _ c2 l2] => some (.bool (decide (xs = ys)), [.p (c1 = xs.map vi), .p (l1 = xs.length), .p (c2 = ys.map vi), .p (l2 = ys.length), .p (xs.length ≤ 281474976710655)])
  | _ => none
theorem kInts_ok (m : Int) (xs ys : List Int) : KxOk prog (gl m) (kInts xs ys) := kL_ok fun l v cs h hc => by
  split at h
  · rename_i hd he c1 l1 c2 l2
    cases h
    simp only [List.mem_cons, List.mem_nil_iff, or_false, forall_eq_or_imp, forall_eq, Cd.ok] at hc
    obtain ⟨d1, d2, d3, d4, d5⟩ := hc
    subst d1 d2 d3 d4
    exact Ints_hasL m _ _ xs ys d5
  · cases h
noncomputable def kInAl (xs ys : List Int) : KX := orK (kInts xs ys) kAlive
theorem kInAl_ok (m : Int) (xs ys : List Int) : KxOk prog (gl m) (kInAl xs ys) := orK_ok (kInts_ok m xs ys) (kAlive_ok m)

noncomputable abbrev F5 : Code := bodyF Tryz.f5
noncomputable def lcA (m n s : Int) (hd : SH) (p : List (Int × Int)) (K : AExit → Tr AV → Mem → Prop) (S : Scr) : Prop := sxC prog (gl m) kx0 98 mo (cp [0] F5) (finK 0 K) S (argsTr [dA hd p, vi n, vi s] 0 .e) (mm [])
noncomputable def lcB (m n s : Int) (hd : SH) (p : List (Int × Int)) (K : AExit → Tr AV → Mem → Prop) (S : Scr) : Prop := sxC prog (gl m) (kCut p) 98 mo (cp [1,0] F5) (finK 0 K) S (few [(0, dA hd p), (1, vi n), (2, vi s)]) (mm [])
noncomputable def lcT (n s : Int) (p : List (Int × Int)) (l : List (Nat × AV)) : Tr AV := few ([(1, vi n), (2, vi s), (7, dA {} p)] ++ l)
noncomputable def lcC (m n s : Int) (p : List (Int × Int)) (x a e : Int) (K : AExit → Tr AV → Mem → Prop) (S : Scr) : Prop := sxC prog (gl m) (kChk p x a e) 98 mo (cp [1,1,0] F5) (finK 0 K) S (lcT n s p []) (mm [])
noncomputable def lcD (m n s : Int) (p : List (Int × Int)) (x a e : Int) (o : List Int) (e2 : Int) (K : AExit → Tr AV → Mem → Prop) (S : Scr) : Prop := sxC prog (gl m) (kOft p o e2) 98 mo (cp [1,1,1,0] F5) (finK 0 K) S (lcT n s p [(8, vi x), (9, vi a), (10, vi e)]) (mm [])
noncomputable def lcU (n s : Int) (p : List (Int × Int)) (x a e : Int) (o : List Int) (e2 : Int) (l : List (Nat × AV)) : Tr AV := few ([(1, vi n), (2, vi s), (7, dA {} p), (8, vi x), (9, vi a), (10, vi e), (11, .ds {} (o.map vi) o.length), (12, vi e2)] ++ l)
noncomputable def lcE (m n s : Int) (p : List (Int × Int)) (x a e : Int) (o : List Int) (e2 : Int) (b : Bool) (K : AExit → Tr AV → Mem → Prop) (S : Scr) : Prop := sxC prog (gl m) (kBad b) 98 mo (cp [1,1,1,1,0,0] F5) (finK 0 K) S (lcU n s p x a e o e2 []) (mm [])
noncomputable def lcF (m n s : Int) (p : List (Int × Int)) (x a e : Int) (o : List Int) (e2 : Int) (b : Bool) (K : AExit → Tr AV → Mem → Prop) (S : Scr) : Prop := sxC prog (gl m) kAlive 98 mo (cp [1,1,1,1,0,1] F5) (finK 0 K) S (lcU n s p x a e o e2 [(33, .bool b)]) (mm [])
noncomputable def lcG (m n s : Int) (p : List (Int × Int)) (x a e : Int) (o : List Int) (e2 : Int) (r0 r1 r2 : Int) (ro : List Int) (K : AExit → Tr AV → Mem → Prop) (S : Scr) : Prop := sxC prog (gl m) (kRef p ro r1 r2) 98 mo (cp [1,1,1,1,1,0] F5) (finK 0 K) S (lcU n s p x a e o e2 []) (mm [])
noncomputable def toldD (r0 r1 r2 : Int) (ro : List Int) : Slot := .blk ⟨[vi r0, vi r1, vi r2, .ds {} (ro.map vi) ro.length], 4, false, false, some 39⟩
noncomputable def lcH (m n s : Int) (p : List (Int × Int)) (x a e : Int) (o : List Int) (e2 : Int) (r0 r1 r2 : Int) (ro : List Int) (K : AExit → Tr AV → Mem → Prop) (S : Scr) : Prop := sxC prog (gl m) kAlive 98 mo (cp [1,1,1,1,1,1,0] F5) (finK 0 K) S (few [(8, vi x), (9, vi a), (10, vi e), (11, .ds {} (o.map vi) o.length), (12, vi e2), (13, .ra 0 0 4)]) (mm [toldD r0 r1 r2 ro])
noncomputable def lcI (m : Int) (o : List Int) (r0 r1 r2 : Int) (ro : List Int) (K : AExit → Tr AV → Mem → Prop) (S : Scr) : Prop := sxC prog (gl m) kAlive 98 mo (cp [1,1,1,1,1,1,1,0] F5) (finK 0 K) S (few [(11, .ds {} (o.map vi) o.length), (13, .ra 0 0 4)]) (mm [toldD r0 r1 r2 ro])
noncomputable def lcJ (m : Int) (o : List Int) (r0 r1 r2 : Int) (ro : List Int) (K : AExit → Tr AV → Mem → Prop) (S : Scr) : Prop := sxC prog (gl m) (kInAl o ro) 98 mo (cp [1,1,1,1,1,1,1,1] F5) (finK 0 K) S (few [(11, .ds {} (o.map vi) o.length), (13, .ra 0 0 4)]) (mm [toldD r0 r1 r2 ro])
set_option maxRecDepth 100000 in
theorem lcA_eq (m : Int) (n : Int) (s : Int) (hd : SH) (p : List (Int × Int)) (K : AExit → Tr AV → Mem → Prop) : lcA m n s hd p K (Scr.fin [0, 1, 2]) = (
    K AExit.normal (few [(0, AV.ds hd (eA p) (List.length p)), (1, AV.int IntKind.i64 n), (2, AV.int IntKind.i64 s)])
  (mm [])) := by kernel_rfl
set_option maxRecDepth 100000 in
theorem lcB_eq (m : Int) (n : Int) (s : Int) (hd : SH) (p : List (Int × Int)) (K : AExit → Tr AV → Mem → Prop) : lcB m n s hd p K (Scr.fin [1, 2, 7]) = (
    eA p = eA p ∧
  List.length p = List.length p ∧
    K AExit.normal
      (few
        [(1, AV.int IntKind.i64 n), (2, AV.int IntKind.i64 s),
          (7, AV.ds (SH.mk false false none) (eA (List.take 4001 p)) (List.length (List.take 4001 p)))])
      (mm [])) := by kernel_rfl
set_option maxRecDepth 100000 in
theorem lcC_eq (m : Int) (n : Int) (s : Int) (p : List (Int × Int)) (x : Int) (a : Int) (e : Int) (K : AExit → Tr AV → Mem → Prop) : lcC m n s p x a e K (Scr.fin [1, 2, 7, 8, 9, 10]) = (
    eA p = eA p ∧
  List.length p = List.length p ∧
    ChkV n s p = (x, a, e) ∧
      K AExit.normal
        (few
          [(1, AV.int IntKind.i64 n), (2, AV.int IntKind.i64 s),
            (7, AV.ds (SH.mk false false none) (eA p) (List.length p)), (8, AV.int IntKind.i64 x),
            (9, AV.int IntKind.i64 a), (10, AV.int IntKind.i64 e)])
        (mm [])) := by kernel_rfl
set_option maxRecDepth 100000 in
theorem lcD_eq (m : Int) (n : Int) (s : Int) (p : List (Int × Int)) (x : Int) (a : Int) (e : Int) (o : List Int) (e2 : Int) (K : AExit → Tr AV → Mem → Prop) : lcD m n s p x a e o e2 K (Scr.fin [1, 2, 7, 8, 9, 10, 11, 12]) = (
    eA p = eA p ∧
  List.length p = List.length p ∧
    OftV n s p = (o, e2) ∧
      K AExit.normal
        (few
          [(1, AV.int IntKind.i64 n), (2, AV.int IntKind.i64 s),
            (7, AV.ds (SH.mk false false none) (eA p) (List.length p)), (8, AV.int IntKind.i64 x),
            (9, AV.int IntKind.i64 a), (10, AV.int IntKind.i64 e),
            (11, AV.ds (SH.mk false false none) (List.map vi o) (List.length o)), (12, AV.int IntKind.i64 e2)])
        (mm [])) := by kernel_rfl
set_option maxRecDepth 100000 in
theorem lcE_eq (m : Int) (n : Int) (s : Int) (p : List (Int × Int)) (x : Int) (a : Int) (e : Int) (o : List Int) (e2 : Int) (b : Bool) (K : AExit → Tr AV → Mem → Prop) : lcE m n s p x a e o e2 b K (Scr.fin [1, 2, 7, 8, 9, 10, 11, 12, 33]) = (
    decide (badP n s) = b ∧
  K AExit.normal
    (few
      [(1, AV.int IntKind.i64 n), (2, AV.int IntKind.i64 s), (7, AV.ds (SH.mk false false none) (eA p) (List.length p)),
        (8, AV.int IntKind.i64 x), (9, AV.int IntKind.i64 a), (10, AV.int IntKind.i64 e),
        (11, AV.ds (SH.mk false false none) (List.map vi o) (List.length o)), (12, AV.int IntKind.i64 e2),
        (33, AV.bool b)])
    (mm [])) := by kernel_rfl
set_option maxRecDepth 100000 in
theorem lcF_eq (m : Int) (n : Int) (s : Int) (p : List (Int × Int)) (x : Int) (a : Int) (e : Int) (o : List Int) (e2 : Int) (b : Bool) (K : AExit → Tr AV → Mem → Prop) : lcF m n s p x a e o e2 b K (Scr.sp
  (Scr.sp
    (Scr.tt
      (Scr.sp
        (Scr.tt
          (Scr.sp
            (Scr.tt (Scr.tt (Scr.sp (Scr.tt (Scr.sp (Scr.fin [6]) (Scr.fin [6]))) (Scr.ff (Scr.ff (Scr.fin [6]))))))
            (Scr.ff (Scr.ff (Scr.ff (Scr.ff (Scr.ff (Scr.fin [6]))))))))
        (Scr.ff (Scr.ff (Scr.ff (Scr.ff (Scr.ff (Scr.ff (Scr.ff (Scr.fin [6]))))))))))
    (Scr.ff (Scr.ff (Scr.ff (Scr.ff (Scr.ff (Scr.ff (Scr.ff (Scr.ff (Scr.ff (Scr.fin [6])))))))))))
  (Scr.fin [1, 2, 7, 8, 9, 10, 11, 12])) = (
    (b = true →
    ((x == 0) = true →
        ((a == 0) = true →
            ((e == 2) = true →
                (((↑(List.length o) : Int) == 0) = true →
                    ((e2 == 2) = true → K AExit.ret (few [(6, AV.bool true)]) (mm [])) ∧
                      ((e2 == 2) = false → K AExit.ret (few [(6, AV.bool false)]) (mm []))) ∧
                  (((↑(List.length o) : Int) == 0) = false → K AExit.ret (few [(6, AV.bool false)]) (mm []))) ∧
              ((e == 2) = false → K AExit.ret (few [(6, AV.bool false)]) (mm []))) ∧
          ((a == 0) = false → K AExit.ret (few [(6, AV.bool false)]) (mm []))) ∧
      ((x == 0) = false → K AExit.ret (few [(6, AV.bool false)]) (mm []))) ∧
  (b = false →
    K AExit.normal
      (few
        [(1, AV.int IntKind.i64 n), (2, AV.int IntKind.i64 s),
          (7, AV.ds (SH.mk false false none) (eA p) (List.length p)), (8, AV.int IntKind.i64 x),
          (9, AV.int IntKind.i64 a), (10, AV.int IntKind.i64 e),
          (11, AV.ds (SH.mk false false none) (List.map vi o) (List.length o)), (12, AV.int IntKind.i64 e2)])
      (mm []))) := by kernel_rfl
set_option maxRecDepth 100000 in
theorem lcG_eq (m : Int) (n : Int) (s : Int) (p : List (Int × Int)) (x : Int) (a : Int) (e : Int) (o : List Int) (e2 : Int) (r0 : Int) (r1 : Int) (r2 : Int) (ro : List Int) (K : AExit → Tr AV → Mem → Prop) : lcG m n s p x a e o e2 r0 r1 r2 ro K (Scr.fin [8, 9, 10, 11, 12, 13]) = (
    eA p = eA p ∧
  List.length p = List.length p ∧
    (1 ≤ n ∧ n ≤ 40 ∧ 0 ≤ s) ∧
      checkV n s p = (ro, r1, r2) ∧
        K AExit.normal
          (few
            [(8, AV.int IntKind.i64 x), (9, AV.int IntKind.i64 a), (10, AV.int IntKind.i64 e),
              (11, AV.ds (SH.mk false false none) (List.map vi o) (List.length o)), (12, AV.int IntKind.i64 e2),
              (13, AV.ra 0 0 4)])
          (mm
            [Slot.blk
                (Blk.mk
                  [AV.int IntKind.i64 (sumZ ro), AV.int IntKind.i64 r1, AV.int IntKind.i64 r2,
                    AV.ds (SH.mk false false none) (List.map vi ro) (List.length ro)]
                  4 false false (some 39))])) := by kernel_rfl
set_option maxRecDepth 100000 in
theorem lcH_eq (m : Int) (n : Int) (s : Int) (p : List (Int × Int)) (x : Int) (a : Int) (e : Int) (o : List Int) (e2 : Int) (r0 : Int) (r1 : Int) (r2 : Int) (ro : List Int) (K : AExit → Tr AV → Mem → Prop) : lcH m n s p x a e o e2 r0 r1 r2 ro K (Scr.sp
  (Scr.tt
    (Scr.tt (Scr.tt (Scr.tt (Scr.tt (Scr.tt (Scr.tt (Scr.tt (Scr.tt (Scr.tt (Scr.tt (Scr.tt (Scr.fin [6])))))))))))))
  (Scr.ff
    (Scr.ff
      (Scr.ff
        (Scr.sp (Scr.tt (Scr.tt (Scr.tt (Scr.tt (Scr.tt (Scr.tt (Scr.tt (Scr.tt (Scr.fin [6])))))))))
          (Scr.ff
            (Scr.ff
              (Scr.ff
                (Scr.sp (Scr.tt (Scr.tt (Scr.tt (Scr.tt (Scr.fin [6])))))
                  (Scr.ff (Scr.ff (Scr.ff (Scr.sp (Scr.fin [6]) (Scr.fin [11, 13])))))))))))))) = (
    ((x != r0) = true →
    K AExit.ret (few [(6, AV.bool false)])
      (mm
        [Slot.blk
            (Blk.mk
              [AV.int IntKind.i64 r0, AV.int IntKind.i64 r1, AV.int IntKind.i64 r2,
                AV.ds (SH.mk false false none) (List.map vi ro) (List.length ro)]
              4 false false (some 39))])) ∧
  ((x != r0) = false →
    ((a != r1) = true →
        K AExit.ret (few [(6, AV.bool false)])
          (mm
            [Slot.blk
                (Blk.mk
                  [AV.int IntKind.i64 r0, AV.int IntKind.i64 r1, AV.int IntKind.i64 r2,
                    AV.ds (SH.mk false false none) (List.map vi ro) (List.length ro)]
                  4 false false (some 39))])) ∧
      ((a != r1) = false →
        ((e != r2) = true →
            K AExit.ret (few [(6, AV.bool false)])
              (mm
                [Slot.blk
                    (Blk.mk
                      [AV.int IntKind.i64 r0, AV.int IntKind.i64 r1, AV.int IntKind.i64 r2,
                        AV.ds (SH.mk false false none) (List.map vi ro) (List.length ro)]
                      4 false false (some 39))])) ∧
          ((e != r2) = false →
            ((e2 != r2) = true →
                K AExit.ret (few [(6, AV.bool false)])
                  (mm
                    [Slot.blk
                        (Blk.mk
                          [AV.int IntKind.i64 r0, AV.int IntKind.i64 r1, AV.int IntKind.i64 r2,
                            AV.ds (SH.mk false false none) (List.map vi ro) (List.length ro)]
                          4 false false (some 39))])) ∧
              ((e2 != r2) = false →
                K AExit.normal
                  (few [(11, AV.ds (SH.mk false false none) (List.map vi o) (List.length o)), (13, AV.ra 0 0 4)])
                  (mm
                    [Slot.blk
                        (Blk.mk
                          [AV.int IntKind.i64 r0, AV.int IntKind.i64 r1, AV.int IntKind.i64 r2,
                            AV.ds (SH.mk false false none) (List.map vi ro) (List.length ro)]
                          4 false false (some 39))])))))) := by kernel_rfl
set_option maxRecDepth 100000 in
theorem lcI_eq (m : Int) (o : List Int) (r0 : Int) (r1 : Int) (r2 : Int) (ro : List Int) (K : AExit → Tr AV → Mem → Prop) : lcI m o r0 r1 r2 ro K (Scr.sp (Scr.sp (Scr.fin [6]) (Scr.fin [6])) (Scr.fin [11, 13])) = (
    ((r2 != 0) = true →
    (((↑(List.length o) : Int) == 0) = true →
        K AExit.ret (few [(6, AV.bool true)])
          (mm
            [Slot.blk
                (Blk.mk
                  [AV.int IntKind.i64 r0, AV.int IntKind.i64 r1, AV.int IntKind.i64 r2,
                    AV.ds (SH.mk false false none) (List.map vi ro) (List.length ro)]
                  4 false false (some 39))])) ∧
      (((↑(List.length o) : Int) == 0) = false →
        K AExit.ret (few [(6, AV.bool false)])
          (mm
            [Slot.blk
                (Blk.mk
                  [AV.int IntKind.i64 r0, AV.int IntKind.i64 r1, AV.int IntKind.i64 r2,
                    AV.ds (SH.mk false false none) (List.map vi ro) (List.length ro)]
                  4 false false (some 39))]))) ∧
  ((r2 != 0) = false →
    K AExit.normal (few [(11, AV.ds (SH.mk false false none) (List.map vi o) (List.length o)), (13, AV.ra 0 0 4)])
      (mm
        [Slot.blk
            (Blk.mk
              [AV.int IntKind.i64 r0, AV.int IntKind.i64 r1, AV.int IntKind.i64 r2,
                AV.ds (SH.mk false false none) (List.map vi ro) (List.length ro)]
              4 false false (some 39))]))) := by kernel_rfl
set_option maxRecDepth 100000 in
theorem lcJ_eq (m : Int) (o : List Int) (r0 : Int) (r1 : Int) (r2 : Int) (ro : List Int) (K : AExit → Tr AV → Mem → Prop) : lcJ m o r0 r1 r2 ro K (Scr.sp (Scr.fin [6]) (Scr.fin [6])) = (
    List.map vi o = List.map vi o ∧
  List.length o = List.length o ∧
    List.map vi ro = List.map vi ro ∧
      List.length ro = List.length ro ∧
        List.length o ≤ 281474976710655 ∧
          (decide (o = ro) = true →
              K AExit.ret (few [(6, AV.bool true)])
                (mm
                  [Slot.blk
                      (Blk.mk
                        [AV.int IntKind.i64 r0, AV.int IntKind.i64 r1, AV.int IntKind.i64 r2,
                          AV.ds (SH.mk false false none) (List.map vi ro) (List.length ro)]
                        4 false false (some 39))])) ∧
            (decide (o = ro) = false →
              K AExit.ret (few [(6, AV.bool false)])
                (mm
                  [Slot.blk
                      (Blk.mk
                        [AV.int IntKind.i64 r0, AV.int IntKind.i64 r1, AV.int IntKind.i64 r2,
                          AV.ds (SH.mk false false none) (List.map vi ro) (List.length ro)]
                        4 false false (some 39))]))) := by kernel_rfl
end Go.Proofs.YtpiincgiakkljaaGreatDoor
/-
  ReplayChecks answers true.
-/
namespace Go.Proofs.YtpiincgiakkljaaGreatDoor
open Go

theorem checkL_err {n s : Int} {len : Nat} : ∀ {l : List (Int × Int)} {i : Nat} {h : Hs} {o : List Int}, (checkL n s len l i h o).2.2 ≠ 0 → (checkL n s len l i h o).1 = []
  | [], i, h, o, he => by
    rw [checkL] at he ⊢
    split at he
    · rename_i q; rw [if_pos q]
    · exact absurd rfl he
  | a :: l, i, h, o, he => by
    rw [checkL] at he ⊢
    rcases hm : mayV n s h a.1 a.2 with ⟨b, h2⟩
    rw [hm] at he
    cases b with
    | false => rfl
    | true => exact checkL_err he

theorem checkV_err {n s : Int} {p : List (Int × Int)} (he : (checkV n s p).2.2 ≠ 0) : (checkV n s p).1 = [] := by
  unfold checkV at he ⊢
  split
  · rfl
  · rename_i q
    rw [if_neg q] at he
    exact checkL_err he

theorem F5_split : F5 = .seq (cp [0] F5) (.seq (cp [1,0] F5) (.seq (cp [1,1,0] F5) (.seq (cp [1,1,1,0] F5) (.seq (.seq (cp [1,1,1,1,0,0] F5) (cp [1,1,1,1,0,1] F5)) (.seq (cp [1,1,1,1,1,0] F5) (.seq (cp [1,1,1,1,1,1,0] F5) (.seq (cp [1,1,1,1,1,1,1,0] F5) (cp [1,1,1,1,1,1,1,1] F5)))))))) := by kernel_rfl

theorem fin5 (l : List Slot) : Lf (FinL prog Tryz.f5 (.bool true)) .ret (few [(6, AV.bool true)]) (mm l) := finL_ret [.bool true] [] (by rw [mm_hfL]; kernel_rfl) (by rfl)

set_option maxRecDepth 100000 in
theorem ReplayChecks_hasL (m n s : Int) (hd : SH) (p0 : List (Int × Int)) : HasL prog (gl m) 5 [dA hd p0, vi n, vi s] (.bool true) := by
  refine hasL_sx Tryz.func5 (code := F5) (by kernel_rfl) (of_decide_eq_true (by kernel_rfl)) fun c st hel hs => ?_
  rw [F5_split]
  refine awp_seq (awp_sx kx0_ok hel ((lcA_eq m n s hd p0 _).mpr fun st1 h1 => ?_) hs)
  refine awp_seq (awp_sx (kCut_ok m p0) hel ((lcB_eq m n s hd p0 _).mpr ⟨rfl, rfl, ?_⟩) h1)
  generalize p0.take 4001 = p
  intro st2 h2
  by_cases hb : badP n s
  · refine awp_seq (awp_sx (kChk_ok m p 0 0 2) hel ((lcC_eq m n s p 0 0 2 _).mpr ⟨rfl, rfl, by rw [ChkV, if_pos hb], fun st3 h3 => ?_⟩) h2)
    refine awp_seq (awp_sx (kOft_ok m p [] 2) hel ((lcD_eq m n s p 0 0 2 [] 2 _).mpr ⟨rfl, rfl, by rw [OftV, if_pos hb], fun st4 h4 => ?_⟩) h3)
    refine awp_seq (awp_seq (awp_sx (kBad_ok m true) hel ((lcE_eq m n s p 0 0 2 [] 2 true _).mpr ⟨decide_eq_true hb, fun st5 h5 => ?_⟩) h4))
    refine awp_sx (kAlive_ok m) hel ((lcF_eq m n s p 0 0 2 [] 2 true _).mpr ⟨fun _ => ⟨fun _ => ⟨fun _ => ⟨fun _ => ⟨fun _ => ⟨fun _ => ?_, fun h => ?_⟩, fun h => ?_⟩, fun h => ?_⟩, fun h => ?_⟩, fun h => ?_⟩, fun h => ?_⟩) h5
    · exact fin5 []
    all_goals exact absurd h (by decide)
  · have hq := checkV_err (n := n) (s := s) (p := p)
    have hbd := checkV_bound (n := n) (s := s) (p := p)
    rcases hv : checkV n s p with ⟨o, a, e⟩
    rw [hv] at hq hbd
    simp only at hq hbd
    have hb2 := hb
    unfold badP at hb2
    refine awp_seq (awp_sx (kChk_ok m p (sumZ o) a e) hel ((lcC_eq m n s p (sumZ o) a e _).mpr ⟨rfl, rfl, by rw [ChkV, if_neg hb, hv], fun st3 h3 => ?_⟩) h2)
    refine awp_seq (awp_sx (kOft_ok m p o e) hel ((lcD_eq m n s p (sumZ o) a e o e _).mpr ⟨rfl, rfl, by rw [OftV, if_neg hb, hv], fun st4 h4 => ?_⟩) h3)
    refine awp_seq (awp_seq (awp_sx (kBad_ok m false) hel ((lcE_eq m n s p (sumZ o) a e o e false _).mpr ⟨decide_eq_false hb, fun st5 h5 => ?_⟩) h4))
    refine awp_sx (kAlive_ok m) hel ((lcF_eq m n s p (sumZ o) a e o e false _).mpr ⟨fun h => ?_, fun _ st6 h6 => ?_⟩) h5
    · cases h
    refine awp_seq (awp_sx (kRef_ok m p o a e) hel ((lcG_eq m n s p (sumZ o) a e o e (sumZ o) a e o _).mpr ⟨rfl, rfl, by omega, hv, fun st7 h7 => ?_⟩) h6)
    refine awp_seq (awp_sx (kAlive_ok m) hel ((lcH_eq m n s p (sumZ o) a e o e (sumZ o) a e o _).mpr ⟨fun h => ?_, fun _ => ⟨fun h => ?_, fun _ => ⟨fun h => ?_, fun _ => ⟨fun h => ?_, fun _ st8 h8 => ?_⟩⟩⟩⟩) h7)
    · simp at h
    · simp at h
    · simp at h
    · simp at h
    refine awp_seq (awp_sx (kAlive_ok m) hel ((lcI_eq m o (sumZ o) a e o _).mpr ⟨fun h => ⟨fun _ => ?_, fun h2 => ?_⟩, fun _ st9 h9 => ?_⟩) h8)
    · exact fin5 _
    · have : o = [] := hq (by simpa using h)
      subst this
      exact absurd h2 (by decide)
    refine awp_sx (kInAl_ok m o o) hel ((lcJ_eq m o (sumZ o) a e o _).mpr ⟨rfl, rfl, rfl, rfl, by have := (hbd (by omega) (by omega)).2; omega, fun _ => ?_, fun h => ?_⟩) h9
    · exact fin5 _
    simp at h
end Go.Proofs.YtpiincgiakkljaaGreatDoor
