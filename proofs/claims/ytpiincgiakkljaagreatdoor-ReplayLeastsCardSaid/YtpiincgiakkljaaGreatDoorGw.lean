/-
  From what a row lays to what the variables hold.
-/
import Derived.Test.YtpiincgiakkljaaGreatDoorGa
import Derived.Lib.LaidU8
import Derived.OpenShut
import Derived.HandedShaped
import Derived.Shelf.Vars
import Derived.MakeChecks
import Derived.Test.YtpiincgiakkljaaGreatDoorFd
import Derived.WalkKit
import Derived.ProofKit
import Derived.Lay
import Derived.LaidOnce
import Derived.SevenTiedAt
import Derived.Shelf.Lay
set_option linter.unusedSimpArgs false
set_option linter.unusedVariables false
namespace Go.Proofs.YtpiincgiakkljaaGreatDoor
open Go

/-- Fields that lie side by side: where they end. -/
def sideEnd (P : Program) (ok : TypeId → Bool) : Nat → List Field → Option Nat
  | o, [] => some o
  | o, f :: l => if f.offset = o ∧ ok f.type = true then sideEnd P ok (o + P.cellsOf f.type) l else none

/-- A type of plain data. -/
def fitB (P : Program) : Nat → TypeId → Bool
  | 0, _ => false
  | n + 1, t => match P.underlying t with
    | some .bool => true
    | some (.int _) => true
    | some .string => true
    | some (.struct fs) => decide (sideEnd P (fitB P n) 0 fs.toList = some (P.cellsOf t))
    | some (.array m e) => decide (P.cellsOf t = m * P.cellsOf e) && fitB P n e
    | _ => false

theorem take_add_drop {α : Type} (l : List α) (o a b : Nat) : (l.drop o).take (a + b) = (l.drop o).take a ++ (l.drop (o + a)).take b := by
  rw [List.take_add, List.drop_drop]

theorem side_le {P : Program} {ok : TypeId → Bool} : ∀ {l : List Field} {o e : Nat}, sideEnd P ok o l = some e → o ≤ e := by
  intro l
  induction l with
  | nil => intro o e h; cases h; exact Nat.le_refl _
  | cons f l ih =>
    intro o e h
    rw [sideEnd] at h
    split at h
    · exact Nat.le_trans (Nat.le_add_right _ _) (ih h)
    · cases h

def Plain (v : Value) : Prop := v.oneCell' = true
def FlatIs (d : DataW Unit) (cs : List Value) : Prop := flatD d = cs.map constCell ∧ ∀ v ∈ cs, v.oneCell' = true
def FlatLIs (d : List (DataW Unit)) (cs : List Value) : Prop := flatDL d = cs.map constCell ∧ ∀ v ∈ cs, v.oneCell' = true

theorem flat_cons {d : DataW Unit} {l : List (DataW Unit)} {a b : List Value} (h1 : FlatIs d a) (h2 : FlatLIs l b) : FlatLIs (d :: l) (a ++ b) := by
  refine ⟨?_, fun v hv => ?_⟩
  · show flatD d ++ flatDL l = _
    rw [h1.1, h2.1, List.map_append]
  · rcases List.mem_append.1 hv with h | h
    · exact h1.2 v h
    · exact h2.2 v h

section
variable {P : Program} {w : World} {base : Nat} {sp : Nat → Bool} {held : Bool}

theorem flat_side {n fuel : Nat} (ih : ∀ {t : TypeId} {cs : List Value} {d : DataW Unit} {p : List MemPlace}, fitB P n t = true → DataW.trod (fun _ => ()) P w base sp held fuel t cs = some (d, p) → FlatIs d cs) {cs : List Value} :
    ∀ (l : List Field) (xs : List (DataW Unit × List MemPlace)) (o e : Nat), sideEnd P (fitB P n) o l = some e → l.length = xs.length →
      (∀ (i : Nat) (f : Field), l[i]? = some f → DataW.trod (fun _ => ()) P w base sp held fuel f.type ((cs.drop f.offset).take (P.cellsOf f.type)) = xs[i]?) → FlatLIs (xs.map (·.1)) ((cs.drop o).take (e - o)) := by
  intro l
  induction l with
  | nil =>
    intro xs o e h hl _
    cases h
    have : xs = [] := List.eq_nil_of_length_eq_zero hl.symm
    subst this
    rw [Nat.sub_self]
    exact ⟨rfl, fun v hv => by simp at hv⟩
  | cons f l ihl =>
    intro xs o e h hl hall
    cases xs with
    | nil => simp at hl
    | cons x xs =>
      rw [sideEnd] at h
      split at h
      · rename_i hc
        obtain ⟨h1, h2⟩ := hc
        have hx := hall 0 f rfl
        rw [h1] at hx
        have hle := side_le h
        have h3 := ihl xs (o + P.cellsOf f.type) e h (by simpa using hl) fun i g hg => by simpa using hall (i + 1) g (by simpa using hg)
        have h4 := ih h2 (d := x.1) (p := x.2) (by simpa using hx)
        have : e - o = P.cellsOf f.type + (e - (o + P.cellsOf f.type)) := by omega
        rw [this, take_add_drop]
        exact flat_cons h4 h3
      · cases h

theorem flat_arr {n fuel : Nat} {e : TypeId} (he : fitB P n e = true) (ih : ∀ {t : TypeId} {cs : List Value} {d : DataW Unit} {p : List MemPlace}, fitB P n t = true → DataW.trod (fun _ => ()) P w base sp held fuel t cs = some (d, p) → FlatIs d cs) {cs : List Value} :
    ∀ (xs : List (DataW Unit × List MemPlace)) (o : Nat),
      (∀ (i : Nat), i < xs.length → DataW.trod (fun _ => ()) P w base sp held fuel e ((cs.drop ((o + i) * P.cellsOf e)).take (P.cellsOf e)) = xs[i]?) → FlatLIs (xs.map (·.1)) ((cs.drop (o * P.cellsOf e)).take (xs.length * P.cellsOf e)) := by
  intro xs
  induction xs with
  | nil =>
    intro o _
    refine ⟨?_, fun v hv => ?_⟩
    · simp [flatDL]
    · simp at hv
  | cons x xs ihx =>
    intro o hall
    have hx := hall 0 (by simp)
    have h3 := ihx (o + 1) fun i hi => by
      have := hall (i + 1) (by simpa using hi)
      rw [show o + (i + 1) = o + 1 + i by omega] at this
      simpa using this
    have h4 := ih he (d := x.1) (p := x.2) (by simpa using hx)
    rw [List.length_cons, show (xs.length + 1) * P.cellsOf e = P.cellsOf e + xs.length * P.cellsOf e by rw [Nat.succ_mul, Nat.add_comm], take_add_drop, show o * P.cellsOf e + P.cellsOf e = (o + 1) * P.cellsOf e by rw [Nat.succ_mul]]
    exact flat_cons h4 h3

theorem flat_of_trod : ∀ (n : Nat) {fuel : Nat} {t : TypeId} {cs : List Value} {d : DataW Unit} {p : List MemPlace}, fitB P n t = true → DataW.trod (fun _ => ()) P w base sp held fuel t cs = some (d, p) → FlatIs d cs := by
  intro n
  induction n with
  | zero => intro _ _ _ _ _ h; cases h
  | succ n ih =>
    intro fuel t cs d p hf h
    rw [fitB] at hf
    split at hf
    · rename_i ht
      obtain ⟨b, rfl, hx⟩ := DataW.trod_bool ht h
      cases hx
      exact ⟨rfl, fun v hv => by rw [List.mem_singleton] at hv; subst hv; rfl⟩
    · rename_i k ht
      obtain ⟨z, rfl, hx, _⟩ := DataW.trod_int ht h
      cases hx
      exact ⟨rfl, fun v hv => by rw [List.mem_singleton] at hv; subst hv; rfl⟩
    · rename_i ht
      obtain ⟨s, rfl, hx, _⟩ := DataW.trod_string ht h
      cases hx
      exact ⟨rfl, fun v hv => by rw [List.mem_singleton] at hv; subst hv; rfl⟩
    · rename_i fs ht
      have hend := of_decide_eq_true hf
      obtain ⟨xs, m, rfl, hx, hl, hxl, hall⟩ := DataW.trod_struct ht h
      cases hx
      have := flat_side (fuel := m) (fun h1 h2 => ih h1 h2) fs.toList xs 0 _ hend (by simpa using hxl.symm) fun i f hi => hall i f (by simpa using hi)
      rw [Nat.sub_zero, List.drop_zero, ← hl, List.take_length] at this
      exact this
    · rename_i m e ht
      rw [Bool.and_eq_true] at hf
      have hc := of_decide_eq_true hf.1
      obtain ⟨xs, q, rfl, hx, hl, hxl, hall⟩ := DataW.trod_array ht h
      cases hx
      have := flat_arr (fuel := q) hf.2 (fun h1 h2 => ih h1 h2) xs 0 fun i hi => by rw [Nat.zero_add]; exact hall i (by omega)
      rw [Nat.zero_mul, List.drop_zero, hxl, ← hc, ← hl, List.take_length] at this
      exact this
    · cases hf

/-- All cells of a world. -/
def allOf (w : World) : CSet := fun b _ => b < w.heap.size

theorem cells_of {G : CSet} {g : Nat} {cs : List Value} (hb : g < w.heap.size) : ∀ (l : List Value) (o : Nat), (∀ i v, l[i]? = some v → w.cell? ⟨g, o + i, none⟩ = some v ∧ v.oneCell' = true) → Cells (fun _ _ => none) (allOf w) G w false g o (l.map constCell) := by
  intro l
  induction l with
  | nil => intro o _; exact .nil
  | cons v l ih =>
    intro o h
    have h0 := h 0 v rfl
    refine .cons (v := v) ?_ h0.1 h0.2 (rep_constCell v) (ih (o + 1) fun i u hu => ?_)
    · simpa [allOf] using hb
    · have := h (i + 1) u (by simpa using hu)
      rwa [show o + (i + 1) = o + 1 + i by omega] at this

theorem lt_of_cell {g o : Nat} {v : Value} (h : w.cell? ⟨g, o, none⟩ = some v) : g < w.heap.size := by
  rcases Nat.lt_or_ge g w.heap.size with h1 | h1
  · exact h1
  · simp [World.cell?, Array.getElem?_eq_none h1] at h

/-- What a variable holds. -/
theorem cells_of_reads {nm : String} {d : DataW Unit} {g n : Nat} {t : TypeId} (h : Lib.VarReads P w nm d) (hg : P.globalNamed nm = some g) (ht : (P.globals[g]?).map (·.type) = some t) (hf : fitB P n t = true) (hne : flatD d ≠ []) :
    Cells (fun _ _ => none) (allOf w) (fun _ _ => False) w false g 0 (flatD d) := by
  obtain ⟨g', t', cs, fuel, p, h1, h2, h3, h4⟩ := h
  obtain rfl := Option.some.inj (h1.symm.trans hg)
  obtain rfl := Option.some.inj (h2.symm.trans ht)
  obtain ⟨f1, f2⟩ := flat_of_trod n hf h4
  have hc : ∀ i v, cs.toList[i]? = some v → w.cell? ⟨g', 0 + i, none⟩ = some v ∧ v.oneCell' = true := by
    intro i v hv
    refine ⟨?_, f2 v (List.mem_of_getElem? hv)⟩
    rw [Nat.zero_add, World.var?_cell hg h3]
    simpa using hv
  have hb : g' < w.heap.size := by
    cases hcs : cs.toList with
    | nil => rw [hcs] at f1; exact absurd f1 hne
    | cons v l => exact lt_of_cell (hc 0 v (by rw [hcs]; rfl)).1
  rw [f1]
  exact cells_of (cs := cs.toList) hb _ 0 hc

def varB (P : Program) (nm : String) (g : Nat) (d : DataW Unit) : Bool := decide (P.globalNamed nm = some g) && ((match P.globals[g]? with
  | some x => fitB P 8 x.type
  | none => false) && !(flatD d).isEmpty)

theorem cells_of_var {nm : String} {d : DataW Unit} {g : Nat} (h : Lib.VarReads P w nm d) (hb : varB P nm g d = true) : Cells (fun _ _ => none) (allOf w) (fun _ _ => False) w false g 0 (flatD d) := by
  unfold varB at hb
  simp only [Bool.and_eq_true] at hb
  obtain ⟨h1, h2, h3⟩ := hb
  have h1 := of_decide_eq_true h1
  split at h2
  · rename_i x hx
    exact cells_of_reads (n := 8) (t := x.type) h h1 (by rw [hx]; rfl) h2 fun e => by rw [e] at h3; simp at h3
  · cases h2
end
end Go.Proofs.YtpiincgiakkljaaGreatDoor
/-
  What the rows lay, and what the world's shape tells, is what the variables hold.
-/
namespace Go.Proofs.YtpiincgiakkljaaGreatDoor
open Go

theorem maxLen_cell {W : World} (hs : W.ShapedOpen Tryz.prog) : ∃ m, W.cell? ⟨2, 0, none⟩ = some (.int .i64 m) :=
  cell_of_shapedOpen_int (g := 2) (t := 3) (zero := #[.int .i64 0]) hs (of_decide_eq_true (by kernel_rfl)) (by kernel_rfl) (by kernel_rfl) (by kernel_rfl) (by kernel_rfl) (by kernel_rfl)

/-- The list that the rows lay. -/
noncomputable abbrev rowLaid : List (String × DataW Unit) := Go.Proofs.YtpiincgiakkljaaGreatDoor.Rows.replayRoomRow.laid

theorem glob_of_laid {W : World} (hl : laidMetH Tryz.prog rowLaid W) (hs : W.ShapedOpen Tryz.prog) : ∃ m, Glob (gl m) (allOf W) W := by
  obtain ⟨m, hm⟩ := maxLen_cell hs
  rw [MakeChecks.laidMetH_plain _ _ _ (by kernel_rfl)] at hl
  refine ⟨m, fun g cs hg => ?_⟩
  unfold gl at hg
  split at hg
  · cases hg; exact cells_of_var (Lib.laidMet.reads hl (n := "fluxion/core.kinds") (d := Go.Proofs.YtpiincgiakkljaaGreatDoor.Rows.laid_fluxion_core_kinds) (List.mem_of_getElem? (i := 8) rfl)) (by kernel_rfl)
  · cases hg; exact cells_of_var (Lib.laidMet.reads hl (n := "fluxion/shape.kinds") (d := Go.Proofs.YtpiincgiakkljaaGreatDoor.Rows.laid_fluxion_shape_kinds) (List.mem_of_getElem? (i := 7) rfl)) (by kernel_rfl)
  · cases hg
    have hb : 2 < W.heap.size := lt_of_cell hm
    exact cells_of (cs := [.int .i64 m]) hb [.int .i64 m] 0 fun i v hv => by
      cases i with
      | zero => cases hv; exact ⟨hm, rfl⟩
      | succ i => simp at hv
  · cases hg; exact cells_of_var (Lib.laidMet.reads hl (n := "fluxion/frac.faults") (d := Go.Proofs.YtpiincgiakkljaaGreatDoor.Rows.laid_fluxion_frac_faults) (List.mem_of_getElem? (i := 6) rfl)) (by kernel_rfl)
  · cases hg; exact cells_of_var (Lib.laidMet.reads hl (n := "unicode/utf8.first") (d := Go.Proofs.YtpiincgiakkljaaGreatDoor.Rows.laid_unicode_utf8_first) (List.mem_of_getElem? (i := 11) rfl)) (by kernel_rfl)
  · cases hg; exact cells_of_var (Lib.laidMet.reads hl (n := "unicode/utf8.acceptRanges") (d := Go.Proofs.YtpiincgiakkljaaGreatDoor.Rows.laid_unicode_utf8_acceptRanges) (List.mem_of_getElem? (i := 3) rfl)) (by kernel_rfl)
  · cases hg; exact cells_of_var (Lib.laidMet.reads hl (n := "internal/strconv.uint64pow10") (d := Go.Proofs.YtpiincgiakkljaaGreatDoor.Rows.laid_internal_strconv_uint64pow10) (List.mem_of_getElem? (i := 2) rfl)) (by kernel_rfl)
  · cases hg; exact cells_of_var (Lib.laidMet.reads hl (n := "fluxion/trace.has") (d := Go.Proofs.YtpiincgiakkljaaGreatDoor.Rows.laid_fluxion_trace_has) (List.mem_of_getElem? (i := 9) rfl)) (by kernel_rfl)
  · cases hg; exact cells_of_var (Lib.laidMet.reads hl (n := "math/bits.deBruijn32tab") (d := Go.Proofs.YtpiincgiakkljaaGreatDoor.Rows.laid_math_bits_deBruijn32tab) (List.mem_of_getElem? (i := 0) rfl)) (by kernel_rfl)
  · cases hg; exact cells_of_var (Lib.laidMet.reads hl (n := "math/bits.deBruijn64tab") (d := Go.Proofs.YtpiincgiakkljaaGreatDoor.Rows.laid_math_bits_deBruijn64tab) (List.mem_of_getElem? (i := 1) rfl)) (by kernel_rfl)
  · cases hg; exact cells_of_var (Lib.laidMet.reads hl (n := "fluxion/trace.two") (d := Go.Proofs.YtpiincgiakkljaaGreatDoor.Rows.laid_fluxion_trace_two) (List.mem_of_getElem? (i := 10) rfl)) (by kernel_rfl)
  · cases hg
end Go.Proofs.YtpiincgiakkljaaGreatDoor
/-
  From what a law gives to the row.
-/
namespace Go.Proofs.YtpiincgiakkljaaGreatDoor
open Go

theorem Framed.same {w w' : World} (h : Framed (fun _ _ => False) w w') {k : Nat} (hk : k < w.heap.size) : w'.heap[k]? = w.heap[k]? := by
  rcases h.blocks k hk with e | ⟨cs, cs', t, fr, fr', h1, h2, h3, h4, h5⟩ | ⟨_, _, _, _, _, _, h5⟩
  · exact e
  · have hc : cs' = cs := by
      apply Array.ext_getElem?
      intro i
      exact h4 i (fun h => h)
    have hf : fr' = fr := h5.elim id fun ⟨_, h⟩ => h.elim
    rw [h1, h2, hc, hf]
  · exact h5.elim

theorem Framed.kept {w w' : World} (h : Framed (fun _ _ => False) w w') (may : MemPlace → Prop) : w.keptBut w' may := by
  refine ⟨h.os, h.output, fun i hi => ?_⟩
  rw [h.same hi]
  split <;> simp_all

theorem calls_true {P : Program} {GL : Globs} {g : FuncId} {xs : List AV} {w : World} {vs : Array Value} (h : HasL P GL g xs (.bool true)) (hg : Glob GL (allOf w) w) (ha : RepL (fun _ _ => none) (allOf w) (fun _ _ => False) w 1 xs vs.toList) :
    Calls P g vs w fun e w' => e = .returned (.bool true) ∧ ∀ may, w.keptBut w' may := by
  refine (h (allOf w) (fun _ _ => False) w vs hg (fun b o hb => hb.elim id False.elim) ha).mono ?_
  rintro e w' ⟨v, F', rfl, h2, _, _, _, h6⟩
  cases h6
  exact ⟨rfl, h2.kept⟩

section
variable {H : Type} {enc : TypeId × Value → H}
theorem handed_and_shaped {a : Assume} {C : Checked} {os : Os} {f : FuncId} {fn : Func} {s : ChangeSpec} {conds : List PathCond} {apart fresh handsOn again : Bool} {X : World → Array Value → Prop}
    (hX : ∀ (w w' : World) (args : Array Value), w.heap = w'.heap → X w args → X w' args)
    (own : ownKnob C.prog.godebug = none) (started : os.Started) (noInit : C.prog.inits.idxOf? f = none) (hfn : C.prog.funcs[f]? = some fn)
    (witness : ∃ (w : World) (tape : Tape) (i : Input), w.os = os ∧ (w.forCall tape i).Shaped C.prog ∧ i.vars = [] ∧ Input.okWide C.prog (w.forCall tape i) .any w.heap.size f i ∧
      ((s.pre enc C.prog fn conds apart (w.forCall tape i).memory i.args ∧ X (w.forCall tape i).memory i.args) ∧ sizedMet enc C.prog fn (OpenSpec.ofChange s) apart (w.forCall tape i).memory i.args) ∧ a.holds C.prog (lone (Frame.enter C.prog f i.args .normal) [] (w.forCall tape i)))
    (contract : ∀ (W : World) (base : Nat) (args : Array Value) (ds gs : List (DataW H)) (before : List MemPlace),
      (∀ (j : Nat) t v, fn.params[j]? = some t → args[j]? = some v → Value.okWide C.prog W .any base t v) →
      DataW.Whole enc C.prog fn.params.toList s.vars apart W args.toList ds gs before → X W args → W.ShapedOpen C.prog →
      Calls C.prog f args W fun e W' => ∃ v, e = .returned v ∧ s.post enc C.prog fn apart fresh handsOn again W args v W') :
    ReturnsInHanded a C os f .any (fun w args => (s.pre enc C.prog fn conds apart w args ∧ X w args) ∧ sizedMet enc C.prog fn (OpenSpec.ofChange s) apart w args) (s.post enc C.prog fn apart fresh handsOn again) := by
  refine returnsInHanded_of_calls own started noInit witness ?_
  intro w tape i _ hsh _ hok hpre _
  obtain ⟨_, _, _, fn', hfn', _, _, _, _, hval⟩ := hok
  have e : fn' = fn := Option.some.inj (hfn'.symm.trans hfn)
  subst e
  obtain ⟨⟨⟨ds, gs, before, hw, _⟩, hx⟩, _⟩ := hpre
  have hw' := DataW.Whole.of_heap (w' := w.forCall tape i) (by rfl) hw
  refine (contract (w.forCall tape i) w.heap.size i.args ds gs before hval hw' (hX _ _ _ (by rfl) hx) hsh).mono fun e W' ⟨v, he, hp⟩ => ?_
  subst he
  exact ChangeSpec.post_blind hp
end
end Go.Proofs.YtpiincgiakkljaaGreatDoor
