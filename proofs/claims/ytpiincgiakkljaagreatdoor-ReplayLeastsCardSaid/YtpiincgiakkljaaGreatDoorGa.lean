/-
  This seat's package-level variables as values; what is known of the library's search for a string; shorthands.
-/
import Derived.Test.YtpiincgiakkljaaGreatDoorRows
import Derived.Test.YtpiincgiakkljaaGreatDoorSh
import Derived.KernelRfl
import Derived.Test.YtpiincgiakkljaaGreatDoorFd
set_option linter.unusedSimpArgs false
set_option linter.unusedVariables false
namespace Go.Proofs.YtpiincgiakkljaaGreatDoor
open Go

def vi (n : Int) : AV := .int .i64 n
def vu (n : Int) : AV := .int .u32 n
def vb (n : Int) : AV := .int .u8 n
def vw (n : Int) : AV := .int .u64 n
def vr (n : Int) : AV := .int .i32 n
def vS (l : List UInt8) : AV := .str ⟨l.toArray⟩
def vZ : AV := .nils
def vT : AV := .bool true
def vF : AV := .bool false
def vG (l : List AV) : AV := .agg l
/-- Data: borrowed, surely not nil, its capacity and one more (0: not known), the cells, the length. -/
def vD (t nn c : Nat) (l : List AV) (n : Nat) : AV := .ds { tag := Nat.beq t 1, nn := Nat.beq nn 1, cap := match c with | 0 => none | c + 1 => some c } l n
def vA (t : Bool) (l : List AV) : AV := .da t l

def litAV : Lit → AV
  | .bool b => .bool b
  | .int k n => .int k n
  | .string b => .str ⟨b.toArray⟩
  | _ => .junk
mutual
def flatD : DataW Unit → List AV
  | .agg l => flatDL l
  | .lit v => [litAV v]
  | _ => [.junk]
def flatDL : List (DataW Unit) → List AV
  | [] => []
  | d :: l => flatD d ++ flatDL l
end

/-- The program. -/
noncomputable abbrev prog : Program := Tryz.prog

/-- A table of calls. -/
def look : List (List AV × AV) → List AV → Option AV
  | [], _ => none
  | (a, v) :: t, l => bif AV.eqBL a l then some v else look t l

theorem look_sound {p : List AV → AV → Prop} : ∀ {t : List (List AV × AV)} {l : List AV} {v : AV}, (∀ q ∈ t, p q.1 q.2) → look t l = some v → p l v := by
  intro t
  induction t with
  | nil => intro l v _ h; cases h
  | cons q t ih =>
    intro l v hp h
    obtain ⟨a, x⟩ := q
    simp only [look] at h
    cases hq : AV.eqBL a l with
    | true =>
      rw [hq] at h
      cases h
      have := AV.eqBL_sound hq
      subst this
      exact hp (a, v) List.mem_cons_self
    | false =>
      rw [hq] at h
      exact ih (fun q hq => hp q (List.mem_cons_of_mem _ hq)) h

/-- Where a string lies in another one, by the shelf's contract. -/
def idxKn (g0 : Nat) (g : FuncId) (l : List AV) : Option (Nat → Known1) := bif Nat.beq g g0 then (match l with
  | [.str s, .str t] => bif Nat.blt s.size 4294967281 then some (fun nid => ⟨.int .i64 (Lib.index s.data.toList t.data.toList), [], nid⟩) else none
  | _ => none) else none

theorem hasL_run {P : Program} {GL : Globs} {kn : Kn} (hkn : KnOk P GL kn) (fuel : Nat) {g : FuncId} {fn : Func} {l : List AV} {want : AV} (hfn : P.funcs[g]? = some fn) (hb : fn.body.isSome = true) (hlen : lenLe l fn.ntmps = true)
    (hr : frozenB P fn want (runC P GL kn fuel (bodyC P GL fn) (argsTr l 0 .e) ⟨.e, 0, 0, [], 0⟩) = true) : HasL P GL g l want := by
  obtain ⟨code, hc⟩ := Option.isSome_iff_exists.1 hb
  exact hasL_of_run hkn hfn hc hlen hr

theorem lendL_m1 {h : Heap} : ∀ {l : List AV}, AV.m1L l = true → lendL h l = some l
  | [], _ => rfl
  | a :: l, hm => by
    simp only [AV.m1L, Bool.and_eq_true] at hm
    have h1 : lnd h lendD a = some a := by
      show lnd h 12 a = some a
      unfold lnd
      rw [if_pos hm.1]
    have h2 : l.mapM (lnd h lendD) = some l := lendL_m1 (h := h) hm.2
    show (a :: l).mapM (lnd h lendD) = some (a :: l)
    simp only [List.mapM_cons, h1, h2]
    rfl

/-- Data handed over. -/
theorem HasL.has {P : Program} {GL : Globs} {g : FuncId} {l : List AV} {a : AV} (h : HasL P GL g l a) (hm : AV.m1L l = true) (hp : Heap) : Has P GL g l hp (.ret a) [] := has_of_hasL h (lendL_m1 hm)
end Go.Proofs.YtpiincgiakkljaaGreatDoor
/-
  This seat's numbers: what the variables hold (MaxLen: whatever number), the search for a string.
-/
namespace Go.Proofs.YtpiincgiakkljaaGreatDoor
open Go


noncomputable def gl (m : Int) : Globs := fun g => match g with
  | 0 => some (flatD Go.Proofs.YtpiincgiakkljaaGreatDoor.Rows.laid_fluxion_core_kinds)
  | 1 => some (flatD Go.Proofs.YtpiincgiakkljaaGreatDoor.Rows.laid_fluxion_shape_kinds)
  | 2 => some [.int .i64 m]
  | 3 => some (flatD Go.Proofs.YtpiincgiakkljaaGreatDoor.Rows.laid_fluxion_frac_faults)
  | 4 => some (flatD Go.Proofs.YtpiincgiakkljaaGreatDoor.Rows.laid_unicode_utf8_first)
  | 5 => some (flatD Go.Proofs.YtpiincgiakkljaaGreatDoor.Rows.laid_unicode_utf8_acceptRanges)
  | 8 => some (flatD Go.Proofs.YtpiincgiakkljaaGreatDoor.Rows.laid_internal_strconv_uint64pow10)
  | 9 => some (flatD Go.Proofs.YtpiincgiakkljaaGreatDoor.Rows.laid_fluxion_trace_has)
  | 10 => some (flatD Go.Proofs.YtpiincgiakkljaaGreatDoor.Rows.laid_math_bits_deBruijn32tab)
  | 11 => some (flatD Go.Proofs.YtpiincgiakkljaaGreatDoor.Rows.laid_math_bits_deBruijn64tab)
  | 12 => some (flatD Go.Proofs.YtpiincgiakkljaaGreatDoor.Rows.laid_fluxion_trace_two)
  | _ => none

theorem has_idx (m : Int) (s t : ByteArray) (hs : s.size < 4294967281) (h : Heap) : Has prog (gl m) 85 [.str s, .str t] h (.ret (.int .i64 (Lib.index s.data.toList t.data.toList))) [] :=
  has_same (vs := #[.string s, .string t]) (v := .int .i64 (Lib.index s.data.toList t.data.toList)) rfl (fun _ _ _ _ => .int)
    (fun w F hgl => Tryz.stringslite_Index s t m w hs (glob_cell hgl (i := 2) (cs := [.int .i64 m]) (j := 0) (a := .int .i64 m) rfl rfl rfl)) h

theorem idxKn_ok (m : Int) {g : FuncId} {l : List AV} {f : Nat → Known1} (h : idxKn 85 g l = some f) (nid : Nat) (hp : Heap) : Has prog (gl m) g l hp (.ret (f nid).val) (f nid).ups := by
  unfold idxKn at h
  cases hg : Nat.beq g 85 with
  | false => rw [hg] at h; cases h
  | true =>
    rw [hg] at h
    have := Nat.eq_of_beq_eq_true hg
    subst this
    simp only [cond_true] at h
    split at h
    · rename_i s t
      cases hs : Nat.blt s.size 4294967281 with
      | false => rw [hs] at h; cases h
      | true =>
        rw [hs] at h
        cases h
        exact has_idx m s t (Nat.lt_of_succ_le (Nat.le_of_ble_eq_true hs)) hp
    · cases h

/-- What is known at first. -/
noncomputable def kn0 : Kn := { kn := idxKn 85 }
theorem kn0_ok (m : Int) : KnOk prog (gl m) kn0 := ⟨fun _ _ _ nid h hp _ => idxKn_ok m h nid hp, fun _ _ _ _ h _ => by cases h⟩
end Go.Proofs.YtpiincgiakkljaaGreatDoor
