/-
  ReplayChecks: the row and its card.
-/
import Derived.Test.YtpiincgiakkljaaGreatDoorS7
import Derived.Test.YtpiincgiakkljaaGreatDoorJq
import Derived.Test.YtpiincgiakkljaaGreatDoorCqg
import Derived.Test.YtpiincgiakkljaaGreatDoorCqh
import Derived.Test.YtpiincgiakkljaaGreatDoorCards
import Derived.Test.YtpiincgiakkljaaGreatDoorTie
set_option linter.unusedSimpArgs false
set_option linter.unusedVariables false
namespace Go.Proofs.YtpiincgiakkljaaGreatDoor
open Go Go.ChangeShapes Go.WideShapes Go.ChangeAt Go.RowKit
open Go.Proofs.YtpiincgiakkljaaGreatDoor

theorem eA_pairs : ∀ p : List (Int × Int), ePairs p = eA p
  | [] => rfl
  | a :: p => by
    show _ :: _ :: ePairs p = [vi a.1, vi a.2] ++ eA p
    rw [eA_pairs p]
    rfl

theorem own : ownKnob Tryz.prog.godebug = none := by kernel_rfl

set_option maxRecDepth 100000 in
theorem checks_lifted (os : Os) (started : os.Started) (H : Type) (enc : TypeId × Value → H) :
    ReturnsInHanded {} Tryz.checked os 5 .any (fun w args => (Rows.replayChecksSpec.pre enc Tryz.prog Tryz.f5 [] false w args ∧ laidMetH Tryz.prog rowLaid w) ∧ sizedMet enc Tryz.prog Tryz.f5 (OpenSpec.ofChange Rows.replayChecksSpec) false w args)
      (Rows.replayChecksSpec.post enc Tryz.prog Tryz.f5 false true false false) := by
  refine handed_and_shaped (C := Tryz.checked) (X := fun w _ => laidMetH Tryz.prog rowLaid w) (fun _ _ _ hh h => h.of_heap hh) own started (by kernel_rfl) Tryz.func5
    (ChangeSpec.witness_shaped (enc := enc) (C := Tryz.checked) (os := os) (X := fun w _ => laidMetH Tryz.prog rowLaid w) false (World.laidAll Tryz.prog os rowLaid) #[.slice none 0 0, .int .i64 0, .int .i64 0] 8 (World.laidAll_os _ _ _)
      (World.shaped_of_ZipB (by kernel_rfl) (by kernel_rfl)) (by kernel_rfl) (by kernel_rfl) (by kernel_rfl)
      (by rw [MakeChecks.laidMetH_plain _ _ _ (by kernel_rfl)]; exact laidMet_laidAll _ (by kernel_rfl) (by kernel_rfl))) ?_
  intro W base args ds gs before hval0 hW hL hS
  have hval : ∀ (j : Nat) t v, Tryz.f5.params[j]? = some t → args[j]? = some v → Value.okWide Tryz.prog W .any base t v := hval0
  have hW' := hW
  have hlt0 := hW.lt
  obtain ⟨p, q, hA0, hV, rfl, hfz, hnd⟩ := hW
  have hA : DataW.TrodAll enc Tryz.prog W 0 (fun _ => true) true Tryz.f5.params.toList args.toList ds p := hA0
  have hA1 := hA
  rw [Tryz.params5] at hA hval
  obtain ⟨v0, vs0, d0, ds0, p0, q0, hargs, rfl, rfl, h0, r0⟩ := trodAll_cons hA
  obtain ⟨v1, vs1, d1, ds1, p1, q1, rfl, rfl, rfl, h1, r1⟩ := trodAll_cons r0
  obtain ⟨v2, vs2, d2, ds2, p2, q2, rfl, rfl, rfl, h2, r2⟩ := trodAll_cons r1
  obtain ⟨rfl, rfl, rfl⟩ := trodAll_nil r2
  obtain rfl : args = #[v0, v1, v2] := by cases args; simp_all
  obtain ⟨rfl, rfl⟩ := trodVars_none hV
  have hv0 := hval 0 30 v0 rfl rfl
  obtain ⟨l, hrep⟩ := pairs_rep Tryz.underlying30 Tryz.underlying73 (by kernel_rfl) rfl rfl (by kernel_rfl) (by kernel_rfl) Tryz.underlying3 Tryz.underlying3 hv0 h0
  rw [eA_pairs] at hrep
  obtain ⟨a1, rfl, rfl, rfl, w1⟩ := open_int Tryz.underlying3 (hval 1 3 v1 rfl rfl) h1
  obtain ⟨a2, rfl, rfl, rfl, w2⟩ := open_int Tryz.underlying3 (hval 2 3 v2 rfl rfl) h2
  clear hA0 hval0
  have hlt : ∀ x ∈ p0 ++ ([] ++ ([] ++ [])), x.block < W.heap.size := fun x hx => hlt0 x (by simp only [List.append_nil] at hx ⊢; exact hx)
  simp only [List.append_nil] at hW'
  obtain ⟨m, hg⟩ := glob_of_laid hL hS
  refine (calls_true2 (ReplayChecks_hasL m a1 a2 {} l) hg (.cons hrep (.cons .int (.cons .int .nil)))).mono fun e W' ⟨he, hk, hold⟩ => ?_
  subst he
  have hagain := args_again (P := Tryz.prog) (by kernel_rfl) hold (fun t ht => by
    rw [Tryz.params5] at ht
    have : t = 30 ∨ t = 3 := by simpa using ht
    rcases this with rfl | rfl
    · exact ⟨by kernel_rfl, of_decide_eq_true (by kernel_rfl)⟩
    · exact ⟨by kernel_rfl, of_decide_eq_true (by kernel_rfl)⟩) hlt hA1
  exact ⟨_, rfl, _, _, _, [], _, [], hW', trodAll_cons_mk (shut_bool Tryz.underlying4 _) trodAll_mk0, hagain, rfl, hk _, fun h => by cases h⟩

theorem checks_row : Rows.ReplayChecksSaid :=
  OpenClaim.holds_of_wide 5 Tryz.f5 rfl rfl rfl rfl rfl rfl rfl ⟨rfl, rfl, rfl, rfl, rfl⟩ rfl rfl rfl rfl rfl Cq.c6 Tryz.func5 Cq.closed
    (of_decide_eq_true (by kernel_rfl)) (by unfold Func.isWrapper; first | (rw [if_pos (by decide +kernel)]; kernel_rfl) | (rw [if_neg (by decide +kernel)]; exact ⟨rfl, rfl⟩))
    (fun os started H enc _ => checks_lifted os started H enc)

theorem replayChecks_holds : Rows.ReplayChecksCardSaid :=
  Claim7.holds_tied_plain_at .later [] [.data, .data, .data, .data, .sentinel, .sentinel, .data, .data, .data, .data, .data, .pinned] true (true, "8fb5b28016e84a67a0e1f14cd2339e1d1eeab6d3e91a6fffedca04390ffe7e5d") true
    checks_row (fun _ h => by cases h) Cq.c1 (fun _ h => by cases h) replayChecks_row_tie rfl ⟨rfl, rfl⟩ Cq.c2 rfl
    (fun f fn hf hfn => by
      obtain rfl : f = 5 := Option.some.inj (Cq.c6.symm.trans hf) |>.symm
      obtain rfl : fn = Tryz.f5 := (Option.some.inj (Tryz.func5.symm.trans hfn)).symm
      exact ⟨Cq.c3, fun j t ht => by
        rw [Tryz.params5] at ht
        have hm : t ∈ [30, 3, 3] := by simpa using Array.mem_of_getElem? ht
        have hall := List.all_eq_true.1 Cq.c4 t hm
        simpa using hall⟩)
    Cq.c5
#print axioms replayChecks_holds
end Go.Proofs.YtpiincgiakkljaaGreatDoor
