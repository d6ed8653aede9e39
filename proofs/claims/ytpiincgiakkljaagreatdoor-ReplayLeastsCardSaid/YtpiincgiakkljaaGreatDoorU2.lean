/-
  fluxionref18.Least, fluxionref18.Reach, replay.Least, replay.Reach as the code says them.
-/
import Derived.Test.YtpiincgiakkljaaGreatDoorU1
set_option linter.unusedSimpArgs false
set_option linter.unusedVariables false
namespace Go.Proofs.YtpiincgiakkljaaGreatDoor
open Go

noncomputable def kTab : KX := kL 30 fun l => match l with
  | [.int .i64 n, .int .i64 s] => some (.ds {} (tabT n.toNat s.toNat (s.toNat + 1)) (s.toNat + 1), [.p (1 ≤ n ∧ n ≤ 40 ∧ 0 ≤ s ∧ s ≤ 8)])
  | _ => none
theorem kTab_ok (m : Int) : KxOk prog (gl m) kTab := kL_ok fun l v cs h hc => by
  split at h
  · rename_i n s
    cases h
    simp only [List.mem_cons, List.mem_nil_iff, or_false, forall_eq_or_imp, forall_eq, Cd.ok] at hc
    have := table_hasL m n.toNat s.toNat (by omega) (by omega) (by omega)
    rw [show ((n.toNat : Nat) : Int) = n by omega, show ((s.toNat : Nat) : Int) = s by omega] at this
    exact this
  · cases h

noncomputable def tabF : List AV := ftab41.map vi
noncomputable def kFill (T : List AV) : KX := kL 22 fun l => match l with
  | [] => some (.da false T, [.p (T = tabF)])
  | _ => none
theorem kFill_ok (m : Int) (T : List AV) : KxOk prog (gl m) (kFill T) := kL_ok fun l v cs h hc => by
  split at h
  · cases h
    simp only [List.mem_cons, List.mem_nil_iff, or_false, forall_eq_or_imp, forall_eq, Cd.ok] at hc
    subst hc
    exact filled_hasL m
  · cases h

noncomputable def kLe (T : List AV) : KX := orK kAsked (kFill T)
theorem kLe_ok (m : Int) (T : List AV) : KxOk prog (gl m) (kLe T) := orK_ok (kAsked_ok m) (kFill_ok m T)

noncomputable abbrev F20 : Code := bodyF Tryz.f20
noncomputable def rlA (m n s x : Int) (row : List Int) (K : AExit → Tr AV → Mem → Prop) (S : Scr) : Prop := sxC prog (gl m) kTab 14 mo F20 (finK 0 K) S (argsTr [vi n, vi s] 0 .e) (mm [])
set_option maxRecDepth 100000 in
theorem rlA_eq (m : Int) (n : Int) (s : Int) (x : Int) (row : List Int) (K : AExit → Tr AV → Mem → Prop) : rlA m n s x row K (Scr.op []
  (Scr.op [false, false, false]
    (Scr.ld [Ek.is (AV.ds (SH.mk false false none) (List.map vi row) (List.length row))]
      (Scr.op [false] (Scr.op [false, false, false] (Scr.ld [Ek.is (vi x)] (Scr.op [false] (Scr.fin [4])))))))) = (
    (1 ≤ n ∧ n ≤ 40 ∧ 0 ≤ s ∧ s ≤ 8) ∧
  Int.toNat s * 1 ≤ List.length (tabT (Int.toNat n) (Int.toNat s) (Int.toNat s + 1)) ∧
    0 ≤ s ∧
      s + 1 ≤ (↑(Int.toNat s + 1) : Int) ∧
        1 ≤ List.length (List.drop (Int.toNat s * 1) (tabT (Int.toNat n) (Int.toNat s) (Int.toNat s + 1))) ∧
          List.getD (List.drop (Int.toNat s * 1) (tabT (Int.toNat n) (Int.toNat s) (Int.toNat s + 1))) 0 AV.junk =
              AV.ds (SH.mk false false none) (List.map vi row) (List.length row) ∧
            Int.toNat n * 1 ≤ List.length (List.map vi row) ∧
              0 ≤ n ∧
                n + 1 ≤ (↑(List.length row) : Int) ∧
                  1 ≤ List.length (List.drop (Int.toNat n * 1) (List.map vi row)) ∧
                    List.getD (List.drop (Int.toNat n * 1) (List.map vi row)) 0 AV.junk = vi x ∧
                      K AExit.ret (few [(4, AV.int IntKind.i64 x)]) (mm [])) := by kernel_rfl

noncomputable abbrev F9 : Code := bodyF Tryz.f9
noncomputable def leA (m n s x : Int) (T : List AV) (K : AExit → Tr AV → Mem → Prop) (S : Scr) : Prop := sxC prog (gl m) (kLe T) 22 mo F9 (finK 0 K) S (argsTr [vi n, vi s] 0 .e) (mm [])
set_option maxRecDepth 100000 in
theorem leA_eq (m : Int) (n : Int) (s : Int) (x : Int) (T : List AV) (K : AExit → Tr AV → Mem → Prop) : leA m n s x T K (Scr.sp (Scr.fin [4, 5])
  (Scr.op []
    (Scr.op []
      (Scr.op [false, false, false]
        (Scr.op [false, false, false] (Scr.ld [Ek.is (vi x)] (Scr.op [false] (Scr.fin [4, 5])))))))) = (
    ((askedV n s != 0) = true →
    K AExit.ret (few [(4, AV.int IntKind.i64 0), (5, AV.int IntKind.i64 (askedV n s))]) (mm [])) ∧
  ((askedV n s != 0) = false →
    T = tabF ∧
      Int.toNat n * 8 ≤ List.length (List.drop 0 T) ∧
        0 ≤ n ∧
          n + 1 ≤ 41 ∧
            Int.toNat (IntKind.wrap IntKind.i64 (s - 1)) * 1 ≤
                List.length (List.drop (Int.toNat n * 8) (List.drop 0 T)) ∧
              0 ≤ IntKind.wrap IntKind.i64 (s - 1) ∧
                IntKind.wrap IntKind.i64 (s - 1) + 1 ≤ 8 ∧
                  1 ≤
                      List.length
                        (List.drop (Int.toNat (IntKind.wrap IntKind.i64 (s - 1)) * 1)
                          (List.drop (Int.toNat n * 8) (List.drop 0 T))) ∧
                    List.getD
                          (List.drop (Int.toNat (IntKind.wrap IntKind.i64 (s - 1)) * 1)
                            (List.drop (Int.toNat n * 8) (List.drop 0 T)))
                          0 AV.junk =
                        vi x ∧
                      K AExit.ret (few [(4, AV.int IntKind.i64 x), (5, AV.int IntKind.i64 0)]) (mm []))) := by kernel_rfl

noncomputable abbrev F19 : Code := bodyF Tryz.f19
noncomputable def rrA (m s t : Int) (K : AExit → Tr AV → Mem → Prop) (S : Scr) : Prop := sxC prog (gl m) kx0 75 mo (cp [0] F19) (finK 0 K) S (argsTr [vi s, vi t] 0 .e) (mm [])
noncomputable def rrB (m s t : Int) (K : AExit → Tr AV → Mem → Prop) (S : Scr) : Prop := sxC prog (gl m) kx0 75 mo (cp [1,0] F19) (finK 0 K) S (few [(0, vi s), (1, vi t)]) (mm [])
noncomputable def rrC (m s t : Int) (K : AExit → Tr AV → Mem → Prop) (S : Scr) : Prop := sxC prog (gl m) kx0 75 mo (cp [1,1,0] F19) (finK 0 K) S (few [(0, vi s), (1, vi t)]) (mm [])
noncomputable def rrD (m s t : Int) (L : Nat) (T : List AV) (K : AExit → Tr AV → Mem → Prop) (S : Scr) : Prop := sxC prog (gl m) kx0 75 mo (cp [1,1,1,0,0] F19) (finK 0 K) S (tbT s t L []) (mm [tabB T])
noncomputable def rrE (m s t : Int) (L : Nat) (T : List AV) (i : Int) (K : AExit → Tr AV → Mem → Prop) (S : Scr) : Prop := sxC prog (gl m) kx0 75 mo (cp [1,1,1,0,1,0,0,0] F19) (finK 0 K) S (tbT s t L [(6, vi i)]) (mm [tabB T])
noncomputable def rrF (m s t : Int) (L : Nat) (T : List AV) (i : Int) (K : AExit → Tr AV → Mem → Prop) (S : Scr) : Prop := sxC prog (gl m) kx0 75 mo (cp [1,1,1,0,1,0,0,1,0,0,0] F19) (finK 0 K) S (tbT s t L [(6, vi i)]) (mm [tabB T])
noncomputable def rrG (m s t : Int) (L : Nat) (T : List AV) (i : Int) (r : List Int) (K : AExit → Tr AV → Mem → Prop) (S : Scr) : Prop := sxC prog (gl m) kx0 75 mo (cp [1,1,1,0,1,0,0,1,0,0,1,0] F19) (finK 0 K) S (tbT s t L [(6, vi i)]) (mm [tabB T, listB r])
noncomputable def rrH (m s t : Int) (L : Nat) (T : List AV) (i j : Int) (r q : List Int) (y z : Int) (K : AExit → Tr AV → Mem → Prop) (S : Scr) : Prop := sxC prog (gl m) kx0 75 mo (cp [1,1,1,0,1,0,0,1,0,0,1,1,0,0] F19) (finK 0 K) S (tbT s t L [(6, vi i), (7, vi j)]) (mm [tabB T, listB r])
noncomputable def rrI (m s t : Int) (L : Nat) (T : List AV) (i : Int) (r : List Int) (K : AExit → Tr AV → Mem → Prop) (S : Scr) : Prop := sxC prog (gl m) kx0 75 mo (cp [1,1,1,0,1,0,0,1,1] F19) (finK 0 K) S (tbT s t L [(6, vi i)]) (mm [tabB T, listB r])
noncomputable def rrJ (m s t : Int) (L : Nat) (T : List AV) (row : List Int) (x : Int) (K : AExit → Tr AV → Mem → Prop) (S : Scr) : Prop := sxC prog (gl m) kx0 75 mo (cp [1,1,1,1] F19) (finK 0 K) S (tbT s t L []) (mm [tabB T])
set_option maxRecDepth 100000 in
theorem rrA_eq (m : Int) (s : Int) (t : Int) (K : AExit → Tr AV → Mem → Prop) : rrA m s t K (Scr.fin [0, 1]) = (
    K AExit.normal (few [(0, AV.int IntKind.i64 s), (1, AV.int IntKind.i64 t)]) (mm [])) := by kernel_rfl
set_option maxRecDepth 100000 in
theorem rrB_eq (m : Int) (s : Int) (t : Int) (K : AExit → Tr AV → Mem → Prop) : rrB m s t K (Scr.sp (Scr.tt (Scr.tt (Scr.fin [4]))) (Scr.ff (Scr.sp (Scr.fin [4]) (Scr.fin [0, 1])))) = (
    ((s == 0) = true → K AExit.ret (few [(4, AV.int IntKind.i64 1)]) (mm [])) ∧
  ((s == 0) = false →
    ((t == 0) = true → K AExit.ret (few [(4, AV.int IntKind.i64 1)]) (mm [])) ∧
      ((t == 0) = false → K AExit.normal (few [(0, AV.int IntKind.i64 s), (1, AV.int IntKind.i64 t)]) (mm [])))) := by kernel_rfl
set_option maxRecDepth 100000 in
theorem rrC_eq (m : Int) (s : Int) (t : Int) (K : AExit → Tr AV → Mem → Prop) : rrC m s t K (Scr.op [false, false, false, false] (Scr.fin [0, 1, 5])) = (
    0 ≤ IntKind.wrap IntKind.i64 (s + 1) ∧
  IntKind.wrap IntKind.i64 (s + 1) ≤ IntKind.wrap IntKind.i64 (s + 1) ∧
    IntKind.wrap IntKind.i64 (s + 1) * 24 ≤ 281474976710656 ∧
      IntKind.wrap IntKind.i64 (s + 1) ≤ 281474976710656 ∧
        K AExit.normal
          (few
            [(0, AV.int IntKind.i64 s), (1, AV.int IntKind.i64 t),
              (5,
                AV.rs 0 0 (Int.toNat (IntKind.wrap IntKind.i64 (s + 1)))
                  (Int.toNat (IntKind.wrap IntKind.i64 (s + 1)) * 1) none)])
          (mm
            [Slot.blk
                (Blk.mk
                  (tile (List.map constCell (Array.toList (Value.cells (Value.slice none 0 0))))
                    (Int.toNat (IntKind.wrap IntKind.i64 (s + 1)) * 1) AV.junk)
                  1 false false none)])) := by kernel_rfl
set_option maxRecDepth 100000 in
theorem rrD_eq (m : Int) (s : Int) (t : Int) (L : Nat) (T : List AV) (K : AExit → Tr AV → Mem → Prop) : rrD m s t L T K (Scr.fin [0, 1, 5, 6]) = (
    K AExit.normal
  (few [(0, AV.int IntKind.i64 s), (1, AV.int IntKind.i64 t), (5, AV.rs 0 0 L L none), (6, AV.int IntKind.i64 0)])
  (mm [Slot.blk (Blk.mk T 1 false false none)])) := by kernel_rfl
set_option maxRecDepth 100000 in
theorem rrE_eq (m : Int) (s : Int) (t : Int) (L : Nat) (T : List AV) (i : Int) (K : AExit → Tr AV → Mem → Prop) : rrE m s t L T i K (Scr.sp (Scr.fin [0, 1, 5, 6]) (Scr.fin [0, 1, 5])) = (
    (decide (i ≤ s) = true →
    K AExit.normal
      (few [(0, AV.int IntKind.i64 s), (1, AV.int IntKind.i64 t), (5, AV.rs 0 0 L L none), (6, AV.int IntKind.i64 i)])
      (mm [Slot.blk (Blk.mk T 1 false false none)])) ∧
  (decide (i ≤ s) = false →
    K (AExit.exit 0) (few [(0, AV.int IntKind.i64 s), (1, AV.int IntKind.i64 t), (5, AV.rs 0 0 L L none)])
      (mm [Slot.blk (Blk.mk T 1 false false none)]))) := by kernel_rfl
set_option maxRecDepth 100000 in
theorem rrF_eq (m : Int) (s : Int) (t : Int) (L : Nat) (T : List AV) (i : Int) (K : AExit → Tr AV → Mem → Prop) : rrF m s t L T i K (Scr.op [false, false, false, false] (Scr.op [false, false] (Scr.op [false, true, false] (Scr.fin [0, 1, 5, 6])))) = (
    0 ≤ IntKind.wrap IntKind.i64 (t + 1) ∧
  IntKind.wrap IntKind.i64 (t + 1) ≤ IntKind.wrap IntKind.i64 (t + 1) ∧
    IntKind.wrap IntKind.i64 (t + 1) * 8 ≤ 281474976710656 ∧
      IntKind.wrap IntKind.i64 (t + 1) ≤ 281474976710656 ∧
        0 ≤ i ∧
          i + 1 ≤ (↑L : Int) ∧
            List.length T = L ∧
              0 + Int.toNat i * 1 + 1 ≤ L ∧
                K AExit.normal
                  (few
                    [(0, AV.int IntKind.i64 s), (1, AV.int IntKind.i64 t), (5, AV.rs 0 0 L L none),
                      (6, AV.int IntKind.i64 i)])
                  (mm
                    [Slot.blk
                        (Blk.mk
                          (splice T (0 + Int.toNat i * 1)
                            [AV.rs 1 0 (Int.toNat (IntKind.wrap IntKind.i64 (t + 1)))
                                (Int.toNat (IntKind.wrap IntKind.i64 (t + 1)) * 1) none])
                          1 false false none),
                      Slot.blk
                        (Blk.mk
                          (tile (List.map constCell (Array.toList (Value.cells (Value.int IntKind.i64 0))))
                            (Int.toNat (IntKind.wrap IntKind.i64 (t + 1)) * 1) AV.junk)
                          1 false false none)])) := by kernel_rfl
set_option maxRecDepth 100000 in
theorem rrG_eq (m : Int) (s : Int) (t : Int) (L : Nat) (T : List AV) (i : Int) (r : List Int) (K : AExit → Tr AV → Mem → Prop) : rrG m s t L T i r K (Scr.fin [0, 1, 5, 6, 7]) = (
    K AExit.normal
  (few
    [(0, AV.int IntKind.i64 s), (1, AV.int IntKind.i64 t), (5, AV.rs 0 0 L L none), (6, AV.int IntKind.i64 i),
      (7, AV.int IntKind.i64 0)])
  (mm [Slot.blk (Blk.mk T 1 false false none), Slot.blk (Blk.mk (List.map vi r) 1 false false none)])) := by kernel_rfl
set_option maxRecDepth 100000 in
theorem rrH_eq (m : Int) (s : Int) (t : Int) (L : Nat) (T : List AV) (i : Int) (j : Int) (r : List Int) (q : List Int) (y : Int) (z : Int) (K : AExit → Tr AV → Mem → Prop) : rrH m s t L T i j r q y z K (Scr.sp
  (Scr.op [false, false]
    (Scr.ld [Ek.is (AV.rs 1 0 (List.length r) (List.length r) none)]
      (Scr.op [false, false]
        (Scr.op [false, false]
          (Scr.op [false, true, false]
            (Scr.sp
              (Scr.tt
                (Scr.sp
                  (Scr.op [false, false]
                    (Scr.ld [Ek.is (AV.rs 1 0 (List.length r) (List.length r) none)]
                      (Scr.op [false, false]
                        (Scr.op [false, false]
                          (Scr.ld [Ek.is (AV.ds (SH.mk false false none) (List.map vi q) (List.length q))]
                            (Scr.op [false, false]
                              (Scr.op [false, false, false]
                                (Scr.ld [Ek.is (vi y)]
                                  (Scr.op [false]
                                    (Scr.op [false, false]
                                      (Scr.ld [Ek.is (AV.rs 1 0 (List.length r) (List.length r) none)]
                                        (Scr.op [false, false]
                                          (Scr.op [false, false]
                                            (Scr.ld [Ek.is (vi z)]
                                              (Scr.op [false, false]
                                                (Scr.op [false, false]
                                                  (Scr.op [false, true, false]
                                                    (Scr.fin [0, 1, 5, 6, 7]))))))))))))))))))
                  (Scr.fin [0, 1, 5, 6, 7])))
              (Scr.ff (Scr.ff (Scr.fin [0, 1, 5, 6, 7])))))))))
  (Scr.fin [0, 1, 5, 6])) = (
    (decide (j ≤ t) = true →
    0 ≤ i ∧
      i + 1 ≤ (↑L : Int) ∧
        List.length T = L ∧
          0 + Int.toNat i * 1 + 1 ≤ List.length T ∧
            List.getD T (0 + Int.toNat i * 1) AV.junk = AV.rs 1 0 (List.length r) (List.length r) none ∧
              0 ≤ j ∧
                j + 1 ≤ (↑(List.length r) : Int) ∧
                  List.length (List.map vi r) = List.length r ∧
                    0 + Int.toNat j * 1 + 1 ≤ List.length r ∧
                      (decide (i > 0) = true →
                          (decide (j > 0) = true →
                              0 ≤ i ∧
                                i + 1 ≤ (↑L : Int) ∧
                                  List.length T = L ∧
                                    0 + Int.toNat i * 1 + 1 ≤ List.length T ∧
                                      List.getD T (0 + Int.toNat i * 1) AV.junk =
                                          AV.rs 1 0 (List.length r) (List.length r) none ∧
                                        0 ≤ IntKind.wrap IntKind.i64 (i - 1) ∧
                                          IntKind.wrap IntKind.i64 (i - 1) + 1 ≤ (↑L : Int) ∧
                                            List.length T = L ∧
                                              0 + Int.toNat (IntKind.wrap IntKind.i64 (i - 1)) * 1 + 1 ≤ List.length T ∧
                                                List.getD T (0 + Int.toNat (IntKind.wrap IntKind.i64 (i - 1)) * 1)
                                                      AV.junk =
                                                    AV.ds (SH.mk false false none) (List.map vi q) (List.length q) ∧
                                                  Int.toNat j * 1 ≤ List.length (List.map vi q) ∧
                                                    0 ≤ j ∧
                                                      j + 1 ≤ (↑(List.length q) : Int) ∧
                                                        1 ≤ List.length (List.drop (Int.toNat j * 1) (List.map vi q)) ∧
                                                          List.getD (List.drop (Int.toNat j * 1) (List.map vi q)) 0
                                                                AV.junk =
                                                              vi y ∧
                                                            0 ≤ i ∧
                                                              i + 1 ≤ (↑L : Int) ∧
                                                                List.length T = L ∧
                                                                  0 + Int.toNat i * 1 + 1 ≤ List.length T ∧
                                                                    List.getD T (0 + Int.toNat i * 1) AV.junk =
                                                                        AV.rs 1 0 (List.length r) (List.length r) none ∧
                                                                      0 ≤ IntKind.wrap IntKind.i64 (j - 1) ∧
                                                                        IntKind.wrap IntKind.i64 (j - 1) + 1 ≤
                                                                            (↑(List.length r) : Int) ∧
                                                                          List.length
                                                                                (splice (List.map vi r)
                                                                                  (0 + Int.toNat j * 1)
                                                                                  [AV.int IntKind.i64 1]) =
                                                                              List.length r ∧
                                                                            0 +
                                                                                    Int.toNat
                                                                                        (IntKind.wrap IntKind.i64
                                                                                          (j - 1)) *
                                                                                      1 +
                                                                                  1 ≤
                                                                                List.length
                                                                                  (splice (List.map vi r)
                                                                                    (0 + Int.toNat j * 1)
                                                                                    [AV.int IntKind.i64 1]) ∧
                                                                              List.getD
                                                                                    (splice (List.map vi r)
                                                                                      (0 + Int.toNat j * 1)
                                                                                      [AV.int IntKind.i64 1])
                                                                                    (0 +
                                                                                      Int.toNat
                                                                                          (IntKind.wrap IntKind.i64
                                                                                            (j - 1)) *
                                                                                        1)
                                                                                    AV.junk =
                                                                                  vi z ∧
                                                                                0 ≤ j ∧
                                                                                  j + 1 ≤ (↑(List.length r) : Int) ∧
                                                                                    List.length
                                                                                          (splice (List.map vi r)
                                                                                            (0 + Int.toNat j * 1)
                                                                                            [AV.int IntKind.i64 1]) =
                                                                                        List.length r ∧
                                                                                      0 + Int.toNat j * 1 + 1 ≤
                                                                                          List.length r ∧
                                                                                        K AExit.normal
                                                                                          (few
                                                                                            [(0, AV.int IntKind.i64 s),
                                                                                              (1, AV.int IntKind.i64 t),
                                                                                              (5, AV.rs 0 0 L L none),
                                                                                              (6, AV.int IntKind.i64 i),
                                                                                              (7,
                                                                                                AV.int IntKind.i64
                                                                                                  (IntKind.wrap
                                                                                                    IntKind.i64
                                                                                                    (j + 1)))])
                                                                                          (mm
                                                                                            [Slot.blk
                                                                                                (Blk.mk T 1 false false
                                                                                                  none),
                                                                                              Slot.blk
                                                                                                (Blk.mk
                                                                                                  (splice
                                                                                                    (splice
                                                                                                      (List.map vi r)
                                                                                                      (0 +
                                                                                                        Int.toNat j * 1)
                                                                                                      [AV.int
                                                                                                          IntKind.i64
                                                                                                          1])
                                                                                                    (0 +
                                                                                                      Int.toNat j * 1)
                                                                                                    [AV.int IntKind.i64
                                                                                                        (IntKind.wrap
                                                                                                          IntKind.i64
                                                                                                          (y + z))])
                                                                                                  1 false false
                                                                                                  none)])) ∧
                            (decide (j > 0) = false →
                              K AExit.normal
                                (few
                                  [(0, AV.int IntKind.i64 s), (1, AV.int IntKind.i64 t), (5, AV.rs 0 0 L L none),
                                    (6, AV.int IntKind.i64 i),
                                    (7, AV.int IntKind.i64 (IntKind.wrap IntKind.i64 (j + 1)))])
                                (mm
                                  [Slot.blk (Blk.mk T 1 false false none),
                                    Slot.blk
                                      (Blk.mk (splice (List.map vi r) (0 + Int.toNat j * 1) [AV.int IntKind.i64 1]) 1
                                        false false none)]))) ∧
                        (decide (i > 0) = false →
                          K AExit.normal
                            (few
                              [(0, AV.int IntKind.i64 s), (1, AV.int IntKind.i64 t), (5, AV.rs 0 0 L L none),
                                (6, AV.int IntKind.i64 i), (7, AV.int IntKind.i64 (IntKind.wrap IntKind.i64 (j + 1)))])
                            (mm
                              [Slot.blk (Blk.mk T 1 false false none),
                                Slot.blk
                                  (Blk.mk (splice (List.map vi r) (0 + Int.toNat j * 1) [AV.int IntKind.i64 1]) 1 false
                                    false none)]))) ∧
  (decide (j ≤ t) = false →
    K (AExit.exit 2)
      (few [(0, AV.int IntKind.i64 s), (1, AV.int IntKind.i64 t), (5, AV.rs 0 0 L L none), (6, AV.int IntKind.i64 i)])
      (mm [Slot.blk (Blk.mk T 1 false false none), Slot.blk (Blk.mk (List.map vi r) 1 false false none)]))) := by kernel_rfl
set_option maxRecDepth 100000 in
theorem rrI_eq (m : Int) (s : Int) (t : Int) (L : Nat) (T : List AV) (i : Int) (r : List Int) (K : AExit → Tr AV → Mem → Prop) : rrI m s t L T i r K (Scr.adj (Adj.frzc 0 (Int.toNat i) 1 (List.length r)) (Scr.finR [0, 1, 5, 6] [(0, true)])) = (
    (List.getD T (Int.toNat i) AV.junk = AV.rs 1 0 (List.length r) (List.length (List.map vi r)) none ∧
    Int.toNat i < List.length T ∧
      List.length r * 1 = List.length (List.map vi r) ∧ ∀ (a : AV), a ∈ List.map vi r → AV.flat a = true) ∧
  AV.m1L (List.set T (Int.toNat i) (AV.ds (SH.mk false false none) (List.map vi r) (List.length r))) = true ∧
    K AExit.normal
      (few
        [(0, AV.int IntKind.i64 s), (1, AV.int IntKind.i64 t), (5, AV.rs 0 0 L L none),
          (6, AV.int IntKind.i64 (IntKind.wrap IntKind.i64 (i + 1)))])
      (mm
        [Slot.blk
            (Blk.mk (List.set T (Int.toNat i) (AV.ds (SH.mk false false none) (List.map vi r) (List.length r))) 1 false
              false none)])) := by kernel_rfl
set_option maxRecDepth 100000 in
theorem rrJ_eq (m : Int) (s : Int) (t : Int) (L : Nat) (T : List AV) (row : List Int) (x : Int) (K : AExit → Tr AV → Mem → Prop) : rrJ m s t L T row x K (Scr.op [false, false]
  (Scr.ld [Ek.is (AV.ds (SH.mk false false none) (List.map vi row) (List.length row))]
    (Scr.op [false, false] (Scr.op [false, false, false] (Scr.ld [Ek.is (vi x)] (Scr.op [false] (Scr.fin [4]))))))) = (
    0 ≤ s ∧
  s + 1 ≤ (↑L : Int) ∧
    List.length T = L ∧
      0 + Int.toNat s * 1 + 1 ≤ List.length T ∧
        List.getD T (0 + Int.toNat s * 1) AV.junk = AV.ds (SH.mk false false none) (List.map vi row) (List.length row) ∧
          Int.toNat t * 1 ≤ List.length (List.map vi row) ∧
            0 ≤ t ∧
              t + 1 ≤ (↑(List.length row) : Int) ∧
                1 ≤ List.length (List.drop (Int.toNat t * 1) (List.map vi row)) ∧
                  List.getD (List.drop (Int.toNat t * 1) (List.map vi row)) 0 AV.junk = vi x ∧
                    K AExit.ret (few [(4, AV.int IntKind.i64 x)]) (mm [Slot.blk (Blk.mk T 1 false false none)])) := by kernel_rfl
end Go.Proofs.YtpiincgiakkljaaGreatDoor
/-
  fluxionref18.Least, replay.Least, fluxionref18.Reach: their contracts.
-/
namespace Go.Proofs.YtpiincgiakkljaaGreatDoor
open Go

set_option maxRecDepth 100000 in
theorem refLeast_hasL (m : Int) (n s : Nat) (hn0 : 1 ≤ n) (hn : n ≤ 40) (hs0 : 1 ≤ s) (hs : s ≤ 8) : HasL prog (gl m) 20 [vi n, vi s] (vi ((rowsN n s).getD n 0)) := by
  have hbr := rowsN_brow hn0 hn s hs0
  have hl := hbr.1
  refine hasL_sx Tryz.func20 (code := F20) (by kernel_rfl) (of_decide_eq_true (by kernel_rfl)) fun c st hel h0 => awp_sx (kTab_ok m) hel ((rlA_eq m n s ((rowsN n s).getD n 0) (rowsN n s) _).mpr ?_) h0
  simp only [Int.toNat_natCast, Nat.mul_one, tabT_length, List.length_map, List.length_drop]
  refine ⟨by omega, by omega, by omega, by omega, by omega, ?_, by omega, by omega, by omega, by omega, ?_, ?_⟩
  · rw [List.getD_eq_getElem?_getD, List.getElem?_drop, Nat.add_zero, ← List.getD_eq_getElem?_getD, tabT_getD (by omega), rowAt, if_pos (by omega)]
    rfl
  · rw [List.getD_eq_getElem?_getD, List.getElem?_drop, Nat.add_zero, ← List.getD_eq_getElem?_getD]
    exact getD_vi (by omega)
  · exact finL_ret [vi ((rowsN n s).getD n 0)] [] (by kernel_rfl) (by rfl)

def leastV (n s : Int) : Int := if badP n s then 0 else ftab41.getD (n.toNat * 8 + (s - 1).toNat) 0

theorem ftab_len : ftab41.length = 656 := by kernel_rfl

set_option maxRecDepth 100000 in
theorem least_hasL (m n s : Int) : HasL prog (gl m) 9 [vi n, vi s] (.tup [vi (leastV n s), vi (askedV n s)]) := by
  refine hasL_sx Tryz.func9 (code := F9) (by kernel_rfl) (of_decide_eq_true (by kernel_rfl)) fun c st hel h0 => awp_sx (kLe_ok m tabF) hel ((leA_eq m n s (leastV n s) tabF _).mpr ⟨fun hb => ?_, fun hb => ?_⟩) h0
  · rw [leastV, if_pos (asked_ne.1 hb)]
    exact finL_ret [vi 0, vi (askedV n s)] [] (by kernel_rfl) (by rfl)
  · have hb' := asked_eq.1 hb
    have ha : askedV n s = 0 := by rw [askedV, if_neg hb']
    rw [ha]
    have hb2 := hb'
    unfold badP at hb2
    have w : IntKind.wrap IntKind.i64 (s - 1) = s - 1 := wrap_ok (by omega) (by omega)
    have hl : tabF.length = 656 := by rw [tabF, List.length_map, ftab_len]
    have hn : n.toNat ≤ 40 := by omega
    have hm : n.toNat * 8 ≤ 320 := by omega
    rw [w, List.drop_zero]
    simp only [List.length_drop, hl, Nat.mul_one]
    refine ⟨trivial, by omega, by omega, by omega, by omega, by omega, by omega, by omega, ?_, ?_⟩
    · rw [List.getD_eq_getElem?_getD, List.getElem?_drop, List.getElem?_drop, Nat.add_zero, ← List.getD_eq_getElem?_getD, leastV, if_neg hb', tabF]
      exact getD_vi (by rw [ftab_len]; omega)
    · exact finL_ret [vi (leastV n s), vi 0] [] (by kernel_rfl) (by rfl)

def refL (fst : Bool) (q : List Int) : Nat → Nat → List Int → List Int
  | 0, _, r => r
  | f + 1, j, r => refL fst q f (j + 1) (r.set j (if fst = true ∨ j = 0 then 1 else IntKind.wrap .i64 (q.getD j 0 + r.getD (j - 1) 0)))

def rowsR (t : Nat) : Nat → List Int
  | 0 => refL true [] (t + 1) 0 (List.replicate (t + 1) 0)
  | a + 1 => refL false (rowsR t a) (t + 1) 0 (List.replicate (t + 1) 0)

theorem refL_length {fst : Bool} {q : List Int} : ∀ (f j : Nat) (r : List Int), (refL fst q f j r).length = r.length
  | 0, _, _ => rfl
  | f + 1, j, r => by rw [refL, refL_length f]; simp

theorem rowsR_length (t : Nat) : ∀ a, (rowsR t a).length = t + 1
  | 0 => by rw [rowsR, refL_length]; simp
  | a + 1 => by rw [rowsR, refL_length]; simp

noncomputable def rowAtR (t i a : Nat) : AV := if a < i then dsR (rowsR t a) else .nils
noncomputable def tabR (t s i : Nat) : List AV := (List.range (s + 1)).map (rowAtR t i)

theorem tabR_zero (t s : Nat) : List.replicate (s + 1) AV.nils = tabR t s 0 := by
  apply List.ext_getElem
  · simp [tabR]
  · intro i h1 h2
    simp only [tabR, List.getElem_replicate, List.getElem_map, List.getElem_range, rowAtR]
    rw [if_neg (by omega)]

theorem tabR_length (t s i : Nat) : (tabR t s i).length = s + 1 := by simp [tabR]

theorem tabR_getD {t s i a : Nat} (h : a ≤ s) : (tabR t s i).getD a .junk = rowAtR t i a := by
  simp [tabR, List.getD_eq_getElem?_getD, show a < s + 1 by omega]

theorem tabR_next {t s i : Nat} (_h : i ≤ s) (x : AV) : ((tabR t s i).set i x).set i (dsR (rowsR t i)) = tabR t s (i + 1) := by
  rw [List.set_set]
  apply List.ext_getElem
  · simp [tabR]
  · intro a h1 h2
    rw [List.getElem_set]
    split
    · rename_i e
      subst e
      simp only [tabR, List.getElem_map, List.getElem_range, rowAtR]
      rw [if_pos (by omega)]
    · rename_i e
      simp only [tabR, List.getElem_map, List.getElem_range, rowAtR]
      by_cases q : a < i
      · rw [if_pos q, if_pos (by omega)]
      · rw [if_neg q, if_neg (by omega)]

theorem tabR_m1 (t s i : Nat) : AV.m1L (tabR t s i) = true := m1L_all fun a ha => by
  simp only [tabR, List.mem_map] at ha
  obtain ⟨j, _, rfl⟩ := ha
  unfold rowAtR
  split <;> simp [AV.m1, dsR]

set_option maxRecDepth 100000 in
theorem F19_split : F19 = .seq (cp [0] F19) (.seq (cp [1,0] F19) (.seq (cp [1,1,0] F19) (.seq (.seq (cp [1,1,1,0,0] F19) (.block 0 (.loop (.seq (cp [1,1,1,0,1,0,0,0] F19) (.seq (.block 1 (.seq (cp [1,1,1,0,1,0,0,1,0,0,0] F19) (.seq (cp [1,1,1,0,1,0,0,1,0,0,1,0] F19)
    (.block 2 (.loop (cp [1,1,1,0,1,0,0,1,0,0,1,1,0,0] F19)))))) (cp [1,1,1,0,1,0,0,1,1] F19)))))) (cp [1,1,1,1] F19)))) := by kernel_rfl

set_option maxRecDepth 100000 in
set_option maxHeartbeats 1000000 in
theorem awp_refRow {m : Int} {s t L : Nat} {T : List AV} {i : Nat} {q R : List Int} {c : Ctx} {st : St} {Q : Post} (hel : ∀ i t L, c.φ0 i t = some L → i < 0)
    (ht : t ≤ 1000) (hL : T.length = L) (hiL : i + 1 ≤ L) (hL9 : L ≤ 1000) (hT : T.getD i .junk = .rs 1 0 (t + 1) (t + 1) none) (hq : i ≠ 0 → T.getD (i - 1) .junk = dsR q) (hlq : i ≠ 0 → q.length = t + 1)
    (hR : refL (i == 0) q (t + 1) 0 (List.replicate (t + 1) 0) = R) (hst : st.is (tbT s t L [(6, vi i), (7, vi 0)]) (mm [tabB T, listB (List.replicate (t + 1) 0)]))
    (hQ : Lf Q .normal (tbT s t L [(6, vi i)]) (mm [tabB T, listB R])) :
    AWP prog (gl m) 75 c (.block 2 (.loop (cp [1,1,1,0,1,0,0,1,0,0,1,1,0,0] F19))) st Q := by
  refine awp_block (awp_loop_sx (α := Nat × List Int) (fun a => a.1 ≤ t + 1 ∧ a.2.length = t + 1 ∧ refL (i == 0) q (t + 1 - a.1) a.1 a.2 = R) (fun a => tbT s t L [(6, vi i), (7, vi a.1)]) (fun a => mm [tabB T, listB a.2]) (fun a => t + 1 - a.1) (fun a st hI hst => ?_) (a := (0, List.replicate (t + 1) 0)) ⟨by omega, by simp, hR⟩ hst)
  obtain ⟨j, r⟩ := a
  obtain ⟨h1, h2, h3⟩ := hI
  simp only at h1 h2 h3 hst
  have step : ∀ (x : Int), j ≤ t → (x = if (i == 0) = true ∨ j = 0 then 1 else IntKind.wrap .i64 (q.getD j 0 + r.getD (j - 1) 0)) →
      ∃ R', R' = r.set j x ∧ R'.length = t + 1 ∧ refL (i == 0) q (t + 1 - (j + 1)) (j + 1) R' = R := fun x hj hx => by
    rw [show t + 1 - j = (t + 1 - (j + 1)) + 1 by omega, refL, ← hx] at h3
    exact ⟨_, rfl, by simpa using h2, h3⟩
  have w1 : IntKind.wrap IntKind.i64 ((j : Int) + 1) = ((j + 1 : Nat) : Int) := by rw [wrap_ok (by omega) (by omega)]; omega
  refine awp_sx kx0_ok hel ((rrH_eq m s t L T i j r q (q.getD j 0) (r.getD (j - 1) 0) _).mpr ⟨fun g1 => ?_, fun g1 st1 s1 => ?_⟩) hst
  · have g1' : j ≤ t := by have := of_decide_eq_true g1; omega
    have e1 : splice (List.map vi r) j [AV.int IntKind.i64 1] = List.map vi (r.set j 1) := splice_set vi _ (by omega)
    have hl1 : (r.set j 1).length = r.length := by simp
    simp only [Int.toNat_natCast, Nat.zero_add, Nat.mul_one, w1, e1, List.length_map, hl1, List.length_drop, h2]
    refine ⟨by omega, by omega, hL, by omega, hT, by omega, by omega, trivial, by omega, fun g2 => ⟨fun g3 => ?_, fun g3 st2 s2 => ?_⟩, fun g2 st2 s2 => ?_⟩
    · have g2' : i ≠ 0 := by have := of_decide_eq_true g2; omega
      have g3' : j ≠ 0 := by have := of_decide_eq_true g3; omega
      have hlq' := hlq g2'
      have w2 : IntKind.wrap IntKind.i64 ((i : Int) - 1) = ((i - 1 : Nat) : Int) := by rw [wrap_ok (by omega) (by omega)]; omega
      have w3 : IntKind.wrap IntKind.i64 ((j : Int) - 1) = ((j - 1 : Nat) : Int) := by rw [wrap_ok (by omega) (by omega)]; omega
      have e2 : splice (List.map vi (r.set j 1)) j [AV.int IntKind.i64 (IntKind.wrap IntKind.i64 (q.getD j 0 + r.getD (j - 1) 0))] = List.map vi (r.set j (IntKind.wrap IntKind.i64 (q.getD j 0 + r.getD (j - 1) 0))) := by
        have := splice_set vi (b := r.set j 1) (IntKind.wrap IntKind.i64 (q.getD j 0 + r.getD (j - 1) 0)) (j := j) (by rw [hl1]; omega)
        rw [List.set_set] at this
        exact this
      simp only [w2, w3, Int.toNat_natCast, e2]
      obtain ⟨R', r1, r2, r3⟩ := step (IntKind.wrap .i64 (q.getD j 0 + r.getD (j - 1) 0)) g1' (by rw [if_neg]; simp; omega)
      refine ⟨by omega, by omega, hL, by omega, hT, by omega, by omega, hL, by omega, hq g2', by omega, by omega, by omega, by omega, ?_, by omega, by omega, hL, by omega, hT, by omega, by omega, trivial, by omega, ?_, by omega, by omega, trivial, by omega, fun st2 s2 => ?_⟩
      · rw [List.getD_eq_getElem?_getD, List.getElem?_drop, Nat.add_zero, ← List.getD_eq_getElem?_getD]
        exact getD_vi (by omega)
      · rw [getD_vi (by rw [hl1]; omega)]
        congr 1
        simp only [List.getD_eq_getElem?_getD]
        rw [List.getElem?_set_ne (by omega)]
      · rw [← r1] at s2
        exact ⟨(j + 1, R'), ⟨by simp only; omega, r2, r3⟩, by simp only; omega, s2⟩
    · have g3' : j = 0 := by have := of_decide_eq_false g3; omega
      obtain ⟨R', r1, r2, r3⟩ := step 1 g1' (by rw [if_pos (.inr g3')])
      rw [← r1] at s2
      exact ⟨(j + 1, R'), ⟨by simp only; omega, r2, r3⟩, by simp only; omega, s2⟩
    · have g2' : i = 0 := by have := of_decide_eq_false g2; omega
      obtain ⟨R', r1, r2, r3⟩ := step 1 g1' (by rw [if_pos (.inl (by simp [g2']))])
      rw [← r1] at s2
      exact ⟨(j + 1, R'), ⟨by simp only; omega, r2, r3⟩, by simp only; omega, s2⟩
  · have g1' : j = t + 1 := by have := of_decide_eq_false g1; omega
    subst g1'
    rw [Nat.sub_self, refL] at h3
    subst h3
    exact hQ st1 s1

def reachV (s t : Nat) : Int := if s = 0 ∨ t = 0 then 1 else (rowsR t s).getD t 0

set_option maxRecDepth 100000 in
theorem refReach_hasL (m : Int) (s t : Nat) (hs : s ≤ 100) (ht : t ≤ 100) : HasL prog (gl m) 19 [vi s, vi t] (vi (reachV s t)) := by
  refine hasL_sx Tryz.func19 (code := F19) (by kernel_rfl) (of_decide_eq_true (by kernel_rfl)) fun c st hel hs0 => ?_
  rw [F19_split]
  refine awp_seq (awp_sx kx0_ok hel ((rrA_eq m s t _).mpr fun st1 h1 => ?_) hs0)
  have fin : ∀ (x : Int) (l : List Slot), reachV s t = x → Lf (FinL prog Tryz.f19 (vi (reachV s t))) .ret (few [(4, AV.int IntKind.i64 x)]) (mm l) := fun x l hx => by
    rw [hx]
    exact finL_ret [vi x] [] (by rw [mm_hfL]; kernel_rfl) (by rfl)
  refine awp_seq (awp_sx kx0_ok hel ((rrB_eq m s t _).mpr ⟨fun hb => ?_, fun hb => ⟨fun hb2 => ?_, fun hb2 st2 h2 => ?_⟩⟩) h1)
  · exact fin 1 [] (by rw [reachV, if_pos (.inl (by have := (beq_iff_eq).1 hb; omega))])
  · exact fin 1 [] (by rw [reachV, if_pos (.inr (by have := (beq_iff_eq).1 hb2; omega))])
  have k1 : s ≠ 0 := fun e => by subst e; exact absurd hb (by decide)
  have k2 : t ≠ 0 := fun e => by subst e; exact absurd hb2 (by decide)
  have w1 : IntKind.wrap IntKind.i64 ((s : Int) + 1) = ((s + 1 : Nat) : Int) := by rw [wrap_ok (by omega) (by omega)]; omega
  have w2 : IntKind.wrap IntKind.i64 ((t : Int) + 1) = ((t + 1 : Nat) : Int) := by rw [wrap_ok (by omega) (by omega)]; omega
  refine awp_seq (awp_sx kx0_ok hel ((rrC_eq m s t _).mpr ?_) h2)
  rw [w1]
  refine ⟨by omega, by omega, by omega, by omega, ?_⟩
  rw [Int.toNat_natCast, Nat.mul_one, tile_nils, tabR_zero t s]
  intro st3 h3
  refine awp_seq (awp_seq (awp_sx kx0_ok hel ((rrD_eq m s t (s + 1) (tabR t s 0) _).mpr fun st4 h4 => ?_) h3))
  refine awp_block (awp_loop_sx (α := Nat) (fun i => i ≤ s + 1) (fun i => tbT s t (s + 1) [(6, vi i)]) (fun i => mm [tabB (tabR t s i)]) (fun i => s + 1 - i) (fun i st hI hst => ?_) (a := 0) (by omega) h4)
  refine awp_seq (awp_sx kx0_ok hel ((rrE_eq m s t (s + 1) (tabR t s i) i _).mpr ⟨fun g1 st4 h4 => ?_, fun g1 st4 h4 => ?_⟩) hst)
  · have g1' : i ≤ s := by have := of_decide_eq_true g1; omega
    have hl := tabR_length t s i
    refine awp_seq (awp_block (awp_seq (awp_sx kx0_ok hel ((rrF_eq m s t (s + 1) (tabR t s i) i _).mpr ?_) h4)))
    rw [w2]
    simp only [Int.toNat_natCast, Nat.zero_add, Nat.mul_one]
    refine ⟨by omega, by omega, by omega, by omega, by omega, by omega, hl, by omega, ?_⟩
    rw [splice_one (by omega), tile_zero]
    intro st5 h5
    refine awp_seq (awp_sx kx0_ok hel ((rrG_eq m s t (s + 1) _ i (List.replicate (t + 1) 0) _).mpr fun st6 h6 => ?_) h5)
    refine awp_refRow (q := rowsR t (i - 1)) (R := rowsR t i) hel (by omega) (by rw [List.length_set]; exact hl) (by omega) (by omega) (getD_set_self (by omega)) (fun hne => ?_) (fun hne => rowsR_length _ _) ?_ h6 fun st7 h7 => ?_
    · rw [getD_set_ne (by omega), tabR_getD (by omega), rowAtR, if_pos (by omega)]
    · cases i with
      | zero =>
        show refL true (rowsR t 0) (t + 1) 0 (List.replicate (t + 1) 0) = refL true [] (t + 1) 0 (List.replicate (t + 1) 0)
        have : ∀ (q q' : List Int) (f j : Nat) (r : List Int), refL true q f j r = refL true q' f j r := by
          intro q q' f
          induction f with
          | zero => intro j r; rfl
          | succ f ih => intro j r; rw [refL, refL, if_pos (.inl rfl), if_pos (.inl rfl)]; exact ih _ _
        exact this _ _ _ _ _
      | succ a => rfl
    · have hlr := rowsR_length t i
      refine awp_sx kx0_ok hel ((rrI_eq m s t (s + 1) _ i (rowsR t i) _).mpr ?_) h7
      simp only [Int.toNat_natCast, List.length_map, List.length_set, Nat.mul_one]
      refine ⟨⟨?_, by omega, trivial, flat_vi' _⟩, ?_⟩
      · rw [getD_set_self (by omega), hlr]
      · have hnx := tabR_next (t := t) (s := s) g1' (.rs 1 0 (t + 1) (t + 1) none)
        unfold dsR at hnx
        rw [hnx]
        have w5 : IntKind.wrap IntKind.i64 ((i : Int) + 1) = ((i + 1 : Nat) : Int) := by rw [wrap_ok (by omega) (by omega)]; omega
        rw [w5]
        exact ⟨tabR_m1 _ _ _, fun st8 h8 => ⟨i + 1, by omega, by omega, h8⟩⟩
  · have g1' : i = s + 1 := by have := of_decide_eq_false g1; omega
    subst g1'
    have hl := tabR_length t s (s + 1)
    have hlr := rowsR_length t s
    refine awp_sx kx0_ok hel ((rrJ_eq m s t (s + 1) _ (rowsR t s) ((rowsR t s).getD t 0) _).mpr ?_) h4
    simp only [Int.toNat_natCast, Nat.zero_add, Nat.mul_one, List.length_map, List.length_drop]
    refine ⟨by omega, by omega, hl, by omega, ?_, by omega, by omega, by omega, by omega, ?_, ?_⟩
    · rw [tabR_getD (by omega), rowAtR, if_pos (by omega)]
      rfl
    · rw [List.getD_eq_getElem?_getD, List.getElem?_drop, Nat.add_zero, ← List.getD_eq_getElem?_getD]
      exact getD_vi (by omega)
    · exact fin _ _ (by rw [reachV, if_neg (by omega)])
end Go.Proofs.YtpiincgiakkljaaGreatDoor
