/-
  slices.Delete of one whole number, whatever the capacity: walked (after the shelf's own walk, whose premise on the capacity is not to be had here).
-/
import Derived.Test.YtpiincgiakkljaaGreatDoorShd
import Derived.Test.YtpiincgiakkljaaGreatDoorProg
import Derived.WalkKit
import Derived.Deep.LoopGhost
import Derived.Deep.RegionLaw
import Derived.Lib.Walk
import Derived.Sort.WalkB12
import Derived.Sort.EncStr
import Derived.Lib.SliceRun
import Derived.Lib.SlicesDelete
set_option linter.unusedSimpArgs false
set_option linter.unusedVariables false
namespace Go.Proofs
open Go Go.Shelf Go.RowKit Go.Lib Go.Sort

set_option maxHeartbeats 4000000 in
set_option maxRecDepth 1000000 in
theorem Tryz.delete_callsYtpiincgiakkljaaGreatDoor (b off c a : Nat) (d : Array Int) (w : World) (hH : Holds encI w b off d) (hc : d.size ≤ c) (ha : a + 1 ≤ d.size) :
    Calls Tryz.prog 74 #[.slice (some ⟨b, off, none⟩) d.size c, .int .i64 a, .int .i64 (a + 1 : Nat)] w fun e w' => e = .returned (.slice (some ⟨b, off, none⟩) (d.size - 1) c) ∧ ∃ q, w' = putRow encI (Sort.ahead w q) b off (d.toList.take a ++ d.toList.drop (a + 1) ++ [0]).toArray := by
  have L := Tryz.laysNm223
  have mixed := L.mixed; have t0 := L.t0; have a0 := L.a0; have z0 := L.z0; have v0 := L.v0; have t3 := L.t3; have a3 := L.a3; have z3 := L.z3; have v3 := L.v3; have t4 := L.t4; have a4 := L.a4; have z4 := L.z4; have v4 := L.v4; have t22 := L.t22; have a22 := L.a22; have z22 := L.z22; have v22 := L.v22
  obtain ⟨i0, hi0, hz0, hz1, hz2⟩ := info_parts L.i3
  have heq : ¬ a = a + 1 := by omega
  obtain ⟨news, hnews⟩ : ∃ news, news = (d.toList.drop (a + 1)).map encI := ⟨_, rfl⟩
  have hlen : news.length = d.size - (a + 1) := by rw [hnews]; simp
  have hget : ∀ t, t < d.size - (a + 1) → news[t]? = some (encI d[a + 1 + t]!) := by
    intro t ht
    rw [hnews, List.getElem?_map, List.getElem?_drop, Array.getElem?_toList, getElem!_pos d (a + 1 + t) (by omega), Array.getElem?_eq_getElem (by omega)]
    rfl
  obtain ⟨A, hA, hsrc⟩ : ∃ A : Addr, (if c = a + 1 then some (⟨b, off, none⟩ : Addr) else some ⟨b, off + (a + 1), none⟩) = some A ∧ Hid (∀ t u, news[t]? = some u → w.drew.cell? (A.add t) = some u) := by
    by_cases h : c = a + 1
    · refine ⟨⟨b, off, none⟩, by simp [h], fun t u hu => ?_⟩
      have h0 : news.length = 0 := by rw [hlen]; omega
      rw [List.length_eq_zero_iff.1 h0] at hu
      simp at hu
    · refine ⟨⟨b, off + (a + 1), none⟩, by simp [h], fun t u hu => ?_⟩
      have ht : t < d.size - (a + 1) := by
        have := (List.getElem?_eq_some_iff.1 hu).1
        rwa [hlen] at this
      rw [hget t ht] at hu
      rw [Addr.add_lit, show off + (a + 1) + t = off + (a + 1 + t) by omega]
      exact (hH (a + 1 + t) (by omega)).1.trans hu
  have s1 : Hid (news.length = (d.size - (a + 1)) * 1) := by rw [Nat.mul_one]; exact hlen
  have s2 : Hid (∀ u ∈ news, u.oneCell' = true) := by
    intro u hu
    rw [hnews] at hu
    obtain ⟨x, _, rfl⟩ := List.mem_map.1 hu
    rfl
  have s3 : Hid (∀ t, t < news.length → (w.drew.cell? ⟨b, off + a * 1 + t, none⟩).isSome = true ∧ w.drew.frozen? ⟨b, off + a * 1 + t, none⟩ = false) := by
    intro t ht
    rw [hlen] at ht
    rw [Nat.mul_one, Nat.add_assoc]
    exact ⟨by show (w.cell? _).isSome = true; rw [(hH (a + t) (by omega)).1]; rfl, (hH (a + t) (by omega)).2⟩
  obtain ⟨W1, hW1⟩ : ∃ W1, W1 = w.drew.setCells b (off + a * 1) news := ⟨_, rfl⟩
  have hW1' : W1 = putRow encI (Sort.ahead w 1) b off (lay d a (d.toList.drop (a + 1))) := by
    rw [hW1, hnews, Nat.mul_one, ← putRow_setCells encI (Sort.ahead w 1) b off _ d a (by simp; omega), putRow_self encI (Sort.ahead w 1) b off d (holds_ahead encI w 1 b off d hH)]
    rfl
  have hH1 : Holds encI W1 b off (lay d a (d.toList.drop (a + 1))) := by rw [hW1']; exact holds_putRow encI _ b off d _ (holds_ahead encI w 1 b off d hH) (lay_size _ _ _)
  have hcl : ∀ ty, (Builtin.clear_ #[Tryz.laysNm223_ren.t 22] ty #[.slice (some ⟨b, off + (a + (d.size - (a + 1))), none⟩) (d.size - (a + (d.size - (a + 1)))) (c - (a + (d.size - (a + 1))))]).run Tryz.prog W1 = .ok (.tuple #[]) (W1.setCells b (off + (a + (d.size - (a + 1)))) (List.replicate (d.size - (a + (d.size - (a + 1)))) (encI 0))) :=
    fun ty => Lib.run_clear_slice W1 _ _ ty _ t22 v3 rfl rfl b (off + (a + (d.size - (a + 1)))) _ _ (by omega) (fun t ht => by rw [show off + (a + (d.size - (a + 1))) + t = off + (a + (d.size - (a + 1)) + t) by omega, (hH1 _ (by rw [lay_size]; omega)).1]; rfl) (fun t ht => by rw [show off + (a + (d.size - (a + 1))) + t = off + (a + (d.size - (a + 1)) + t) by omega]; exact (hH1 _ (by rw [lay_size]; omega)).2)
  have X : Aside (W1 = putRow encI (Sort.ahead w 1) b off (lay d a (d.toList.drop (a + 1)))) := hW1'
  have hW : Hid (W1 = w.drew.setCells b (off + a * 1) news) := hW1
  have hij : a ≤ a + 1 := by omega
  have hic : a ≤ c := by omega
  have hjc : a + 1 ≤ c := by omega
  generalize hj : a + 1 = j at *
  clear hW1 hW1' hH1 hH hget hnews hlen
  change Calls Tryz.prog (Tryz.laysNm223_ren.f 23) _ _ _
  go_enter L.f23, Body2.n23_ntmps Tryz.laysNm223_ren
  go_wp2_with fail
  go_region_law_o (refine step_append_room rfl (.tmp 22) (.tmp 25) (Tryz.laysNm223_ren.t 22) rfl (Tryz.laysNm223_ren.t 3) i0 1 t22 hi0 hz1 b off a c (by simp [Act.eval, Act.put]) A (d.size - j) (c - j) news (by simp [Act.eval, Act.put]) s1.out hsrc.out s2.out (by omega) s3.out ?_; rw [← hW.out])
  go_wp2
  go_ret
  refine ⟨by rw [show d.size - 1 = a + (d.size - j) by omega]; rfl, 1, ?_⟩
  have e1 : List.replicate (j - a) (0 : Int) = [0] := by rw [show j - a = 1 by omega]; rfl
  rw [← e1, ← delete_arr d a j 0 hij ha, ← putRow_setCells encI _ b off _ _ (a + (d.size - j)) (by rw [lay_size]; simp; omega), ← X.out, List.map_replicate, show d.size - (a + (d.size - j)) = j - a by omega]
end Go.Proofs
