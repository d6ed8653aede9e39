/-
  From what a law gives to the row: arguments that lead into memory.
-/
import Derived.Test.YtpiincgiakkljaaGreatDoorGw
import Derived.Carry
import Derived.Deep.SlicePairs
set_option linter.unusedSimpArgs false
set_option linter.unusedVariables false
namespace Go.Proofs.YtpiincgiakkljaaGreatDoor
open Go Go.ChangeShapes Go.WideShapes Go.Deep

/-- All that was there is as it was. -/
def SameOld (w w' : World) : Prop := ∀ k, k < w.heap.size → w'.heap[k]? = w.heap[k]?

theorem calls_true2 {P : Program} {GL : Globs} {g : FuncId} {xs : List AV} {w : World} {vs : Array Value} (h : HasL P GL g xs (.bool true)) (hg : Glob GL (allOf w) w) (ha : RepL (fun _ _ => none) (allOf w) (fun _ _ => False) w 1 xs vs.toList) :
    Calls P g vs w fun e w' => e = .returned (.bool true) ∧ (∀ may, w.keptBut w' may) ∧ SameOld w w' := by
  refine (h (allOf w) (fun _ _ => False) w vs hg (fun b o hb => hb.elim id False.elim) ha).mono ?_
  rintro e w' ⟨v, F', rfl, h2, _, _, _, h6⟩
  cases h6
  exact ⟨rfl, h2.kept, fun k hk => h2.same hk⟩

section
variable {H : Type} {enc : TypeId × Value → H} {P : Program}

theorem SameOld.at_ {W W' : World} (h : SameOld W W') {p : MemPlace} (hp : p.block < W.heap.size) : W.sameAt W' p := by
  cases p with
  | cell b o => exact World.cell?_of_block (w := W) (h b hp)
  | map b => exact h b hp

theorem args_again (hl : laidOutB P = true) {W W' : World} (hs : SameOld W W') : ∀ {ts : List TypeId} {vs : List Value} {ds : List (DataW H)} {ps : List MemPlace}, (∀ t ∈ ts, P.readableRec t = true ∧ t < P.types.size) →
    (∀ p ∈ ps, p.block < W.heap.size) → DataW.TrodAll enc P W 0 (fun _ => true) true ts vs ds ps → DataW.TrodAll enc P W' 0 (fun b => decide (b < W.heap.size)) true ts vs ds ps
  | [], vs, ds, ps, _, _, h => by cases vs <;> cases ds <;> exact h
  | t :: ts, vs, ds, ps, ht, hp, h => by
    obtain ⟨v, vs', d, ds', p, q, rfl, rfl, rfl, h1, h2⟩ := trodAll_cons h
    have a1 := ht t List.mem_cons_self
    exact ⟨p, q, WideElems.Trod_stays hl a1.1 a1.2 h1 (fun x hx => hs.at_ (hp x (List.mem_append_left _ hx))) (fun x hx => by simpa using hp x (List.mem_append_left _ hx)),
      args_again hl hs (fun u hu => ht u (List.mem_cons_of_mem _ hu)) (fun x hx => hp x (List.mem_append_right _ hx)) h2, rfl⟩

/-- The numbers of pairs, in a row. -/
def ePairs : List (Int × Int) → List AV
  | [] => []
  | p :: l => .int .i64 p.1 :: .int .i64 p.2 :: ePairs l

theorem ePairs_get : ∀ (l : List (Int × Int)) (j : Nat) (a : AV), (ePairs l)[j]? = some a → ∃ (i : Nat) (p : Int × Int), l[i]? = some p ∧ ((j = i * 2 ∧ a = .int .i64 p.1) ∨ (j = i * 2 + 1 ∧ a = .int .i64 p.2))
  | [], j, a, h => by simp [ePairs] at h
  | p :: l, 0, a, h => ⟨0, p, rfl, .inl ⟨rfl, by simpa [ePairs] using h.symm⟩⟩
  | p :: l, 1, a, h => ⟨0, p, rfl, .inr ⟨rfl, by simpa [ePairs] using h.symm⟩⟩
  | p :: l, j + 2, a, h => by
    obtain ⟨i, q, h1, h2⟩ := ePairs_get l j a (by simpa [ePairs] using h)
    exact ⟨i + 1, q, by simpa using h1, h2.imp (fun ⟨e, e2⟩ => ⟨by omega, e2⟩) fun ⟨e, e2⟩ => ⟨by omega, e2⟩⟩

theorem pairs_rep {t e : TypeId} {f0 f1 : Field} {w : World} {v : Value} {d : DataW H} {ps : List MemPlace} (ht : P.underlying t = some (.slice e)) (he : P.underlying e = some (.struct #[f0, f1]))
    (ce : P.cellsOf e = 2) (o0 : f0.offset = 0) (o1 : f1.offset = 1) (c0 : P.cellsOf f0.type = 1) (c1 : P.cellsOf f1.type = 1) (i0 : P.underlying f0.type = some (.int .i64)) (i1 : P.underlying f1.type = some (.int .i64))
    {r : Reach} {base : Nat} (hv : Value.okWide P w r base t v) (h : DataW.Trod enc P w 0 (fun _ => true) true t v d ps) :
    ∃ l : List (Int × Int), Rep (fun _ _ => none) (allOf w) (fun _ _ => False) w 1 (.ds {} (ePairs l) l.length) v := by
  obtain ⟨fuel, h⟩ := h
  have hcell : ∃ x y z, v = .slice x y z := by
    unfold Value.okWide at hv
    rw [ht] at hv
    unfold Cell.okWide Cell.ok at hv
    rw [ht] at hv
    simp only at hv
    split at hv
    all_goals first | exact ⟨_, _, _, rfl⟩ | simp_all
  obtain ⟨x, y, z, rfl⟩ := hcell
  rcases open_slice_pairs ht he ce o0 o1 c0 c1 h with ⟨hc, hx⟩ | ⟨a, len, cap, m, k, V0, V1, D0, D1, P0, P1, hc, _, hl, hm, hmm, hx, hall⟩
  · have hc' : Value.slice x y z = .slice none 0 0 := by simpa [Value.cells] using hc
    rw [hc']
    exact ⟨[], .dsn rfl (by simp)⟩
  · have hc' : Value.slice x y z = .slice (some a) len cap := by simpa [Value.cells] using hc
    rw [hc'] at hv ⊢
    simp only [if_true] at hmm
    subst hmm
    have hsp : a.spot = none := by
      unfold Value.okWide at hv
      rw [ht] at hv
      unfold Cell.okWide Cell.ok at hv
      rw [ht] at hv
      exact hv.2.2.2.1
    obtain ⟨b, o, s⟩ := a
    simp only at hsp
    subst hsp
    have hint : ∀ i, i < m → ∃ q : Int × Int, w.cell? ⟨b, o + i * 2, none⟩ = some (.int .i64 q.1) ∧ w.cell? ⟨b, o + i * 2 + 1, none⟩ = some (.int .i64 q.2) := fun i hi => by
      obtain ⟨g1, g2, g3, g4⟩ := hall i hi
      obtain ⟨n0, a1, _, _⟩ := DataW.trod_int i0 g3
      obtain ⟨n1, b1, _, _⟩ := DataW.trod_int i1 g4
      simp only [List.cons.injEq, and_true] at a1 b1
      rw [a1] at g1
      rw [b1] at g2
      exact ⟨(n0, n1), by simpa [Addr.add_lit] using g1, by simpa [Addr.add_lit, Nat.add_assoc] using g2⟩
    obtain ⟨q, hq⟩ := choose_lt (α := Int × Int) hint
    refine ⟨(List.range len).map q, ?_⟩
    rw [List.length_map, List.length_range]
    refine .ds (by simp) (by simp) hl (Cells.ofGet fun j a ha => ?_)
    obtain ⟨i, p, h1, h2⟩ := ePairs_get _ _ _ ha
    rw [List.getElem?_map] at h1
    have hi : i < len := by
      rcases Nat.lt_or_ge i len with g | g
      · exact g
      · rw [List.getElem?_eq_none (by simpa using g)] at h1; simp at h1
    rw [List.getElem?_range hi] at h1
    simp only [Option.map_some, Option.some.injEq] at h1
    obtain ⟨g1, g2⟩ := hq i (by omega)
    have key : ∀ {c : Nat} {u : Value}, w.cell? ⟨b, c, none⟩ = some u → b < w.heap.size := fun {c u} hc => by
      unfold World.cell? at hc
      rcases Nat.lt_or_ge b w.heap.size with g | g
      · exact g
      · rw [Array.getElem?_eq_none (by omega)] at hc; cases hc
    rcases h2 with ⟨rfl, rfl⟩ | ⟨rfl, rfl⟩
    · subst h1
      exact ⟨key g1, _, g1, .int, rfl⟩
    · subst h1
      exact ⟨key g1, _, g2, .int, rfl⟩
end
end Go.Proofs.YtpiincgiakkljaaGreatDoor
