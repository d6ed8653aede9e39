/-
  fluxionref18.table as the code says it.
-/
import Derived.Test.YtpiincgiakkljaaGreatDoorS6
set_option linter.unusedSimpArgs false
set_option linter.unusedVariables false
namespace Go.Proofs.YtpiincgiakkljaaGreatDoor
open Go

noncomputable def tabB (T : List AV) : Slot := .blk ⟨T, 1, false, false, none⟩
noncomputable abbrev F30 : Code := bodyF Tryz.f30
noncomputable def tbA (m n s : Int) (K : AExit → Tr AV → Mem → Prop) (S : Scr) : Prop := sxC prog (gl m) kx0 73 mo (cp [0] F30) (finK 0 K) S (argsTr [vi n, vi s] 0 .e) (mm [])
noncomputable def tbB (m n s : Int) (K : AExit → Tr AV → Mem → Prop) (S : Scr) : Prop := sxC prog (gl m) kx0 73 mo (cp [1,0] F30) (finK 0 K) S (few [(0, vi n), (1, vi s)]) (mm [])
noncomputable def tbT (n s : Int) (L : Nat) (l : List (Nat × AV)) : Tr AV := few ([(0, vi n), (1, vi s), (5, .rs 0 0 L L none)] ++ l)
noncomputable def tbC (m n s : Int) (L : Nat) (T : List AV) (K : AExit → Tr AV → Mem → Prop) (S : Scr) : Prop := sxC prog (gl m) kx0 73 mo (cp [1,1,0,0] F30) (finK 0 K) S (tbT n s L []) (mm [tabB T])
noncomputable def tbD (m n s : Int) (L : Nat) (T : List AV) (i : Int) (K : AExit → Tr AV → Mem → Prop) (S : Scr) : Prop := sxC prog (gl m) kx0 73 mo (cp [1,1,0,1,0,0,0] F30) (finK 0 K) S (tbT n s L [(6, vi i)]) (mm [tabB T])
noncomputable def tbE (m n s : Int) (L : Nat) (T : List AV) (i : Int) (K : AExit → Tr AV → Mem → Prop) (S : Scr) : Prop := sxC prog (gl m) kx0 73 mo (cp [1,1,0,1,0,0,1,0,0,0] F30) (finK 0 K) S (tbT n s L [(6, vi i)]) (mm [tabB T])
noncomputable def tbF (m n s : Int) (L : Nat) (T : List AV) (i : Int) (r : List Int) (K : AExit → Tr AV → Mem → Prop) (S : Scr) : Prop := sxC prog (gl m) kx0 73 mo (cp [1,1,0,1,0,0,1,0,0,1,0] F30) (finK 0 K) S (tbT n s L [(6, vi i)]) (mm [tabB T, listB r])
noncomputable def tbG (m n s : Int) (L : Nat) (T : List AV) (i k : Int) (r : List Int) (K : AExit → Tr AV → Mem → Prop) (S : Scr) : Prop := sxC prog (gl m) kx0 73 mo (cp [1,1,0,1,0,0,1,0,0,1,1,0,0,0] F30) (finK 0 K) S (tbT n s L [(6, vi i), (7, vi k)]) (mm [tabB T, listB r])
noncomputable def tbH (m n s : Int) (L : Nat) (T : List AV) (i k : Int) (r : List Int) (K : AExit → Tr AV → Mem → Prop) (S : Scr) : Prop := sxC prog (gl m) kx0 73 mo (cp [1,1,0,1,0,0,1,0,0,1,1,0,0,1,0,0,0] F30) (finK 0 K) S (tbT n s L [(6, vi i), (7, vi k)]) (mm [tabB T, listB r])
noncomputable def tbI (m n s : Int) (L : Nat) (T : List AV) (i k b : Int) (r : List Int) (K : AExit → Tr AV → Mem → Prop) (S : Scr) : Prop := sxC prog (gl m) kx0 73 mo (cp [1,1,0,1,0,0,1,0,0,1,1,0,0,1,0,0,1,0,0] F30) (finK 0 K) S (tbT n s L [(6, vi i), (7, vi k), (8, vi b)]) (mm [tabB T, listB r])
noncomputable def tbJ (m n s : Int) (L : Nat) (T : List AV) (i k b j : Int) (r : List Int) (K : AExit → Tr AV → Mem → Prop) (S : Scr) : Prop := sxC prog (gl m) kx0 73 mo (cp [1,1,0,1,0,0,1,0,0,1,1,0,0,1,0,0,1,0,1,0,0,0] F30) (finK 0 K) S (tbT n s L [(6, vi i), (7, vi k), (8, vi b), (9, vi j)]) (mm [tabB T, listB r])
noncomputable def tbM (m n s : Int) (L : Nat) (T : List AV) (i k b j : Int) (r q : List Int) (K : AExit → Tr AV → Mem → Prop) (S : Scr) : Prop := sxC prog (gl m) kx0 73 mo (cp [1,1,0,1,0,0,1,0,0,1,1,0,0,1,0,0,1,0,1,0,0,1,0,0] F30) (finK 0 K) S (tbT n s L [(6, vi i), (7, vi k), (8, vi b), (9, vi j)]) (mm [tabB T, listB r])
noncomputable def tbN (m n s : Int) (L : Nat) (T : List AV) (i k b j : Int) (r : List Int) (K : AExit → Tr AV → Mem → Prop) (S : Scr) : Prop := sxC prog (gl m) kx0 73 mo (cp [1,1,0,1,0,0,1,0,0,1,1,0,0,1,0,0,1,0,1,0,0,1,1] F30) (finK 0 K) S (tbT n s L [(6, vi i), (7, vi k), (8, vi b), (9, vi j)]) (mm [tabB T, listB r])
noncomputable def tbO (m n s : Int) (L : Nat) (T : List AV) (i k b : Int) (r : List Int) (K : AExit → Tr AV → Mem → Prop) (S : Scr) : Prop := sxC prog (gl m) kx0 73 mo (cp [1,1,0,1,0,0,1,0,0,1,1,0,0,1,0,0,1,1] F30) (finK 0 K) S (tbT n s L [(6, vi i), (7, vi k), (8, vi b)]) (mm [tabB T, listB r])
noncomputable def tbQ (m n s : Int) (L : Nat) (T : List AV) (i k : Int) (r : List Int) (K : AExit → Tr AV → Mem → Prop) (S : Scr) : Prop := sxC prog (gl m) kx0 73 mo (cp [1,1,0,1,0,0,1,0,0,1,1,0,0,1,1] F30) (finK 0 K) S (tbT n s L [(6, vi i), (7, vi k)]) (mm [tabB T, listB r])
noncomputable def tbR (m n s : Int) (L : Nat) (T : List AV) (i : Int) (r : List Int) (K : AExit → Tr AV → Mem → Prop) (S : Scr) : Prop := sxC prog (gl m) kx0 73 mo (cp [1,1,0,1,0,0,1,1] F30) (finK 0 K) S (tbT n s L [(6, vi i)]) (mm [tabB T, listB r])
noncomputable def tbU (m : Int) (L : Nat) (T : List AV) (K : AExit → Tr AV → Mem → Prop) (S : Scr) : Prop := sxC prog (gl m) kx0 73 mo (cp [1,1,1] F30) (finK 0 K) S (few [(5, .rs 0 0 L L none)]) (mm [tabB T])
set_option maxRecDepth 100000 in
theorem tbA_eq (m : Int) (n : Int) (s : Int) (K : AExit → Tr AV → Mem → Prop) : tbA m n s K (Scr.fin [0, 1]) = (
    K AExit.normal (few [(0, AV.int IntKind.i64 n), (1, AV.int IntKind.i64 s)]) (mm [])) := by kernel_rfl
set_option maxRecDepth 100000 in
theorem tbB_eq (m : Int) (n : Int) (s : Int) (K : AExit → Tr AV → Mem → Prop) : tbB m n s K (Scr.op [false, false, false, false] (Scr.fin [0, 1, 5])) = (
    0 ≤ IntKind.wrap IntKind.i64 (s + 1) ∧
  IntKind.wrap IntKind.i64 (s + 1) ≤ IntKind.wrap IntKind.i64 (s + 1) ∧
    IntKind.wrap IntKind.i64 (s + 1) * 24 ≤ 281474976710656 ∧
      IntKind.wrap IntKind.i64 (s + 1) ≤ 281474976710656 ∧
        K AExit.normal
          (few
            [(0, AV.int IntKind.i64 n), (1, AV.int IntKind.i64 s),
              (5,
                AV.rs 0 0 (Int.toNat (IntKind.wrap IntKind.i64 (s + 1)))
                  (Int.toNat (IntKind.wrap IntKind.i64 (s + 1)) * 1) none)])
          (mm
            [Slot.blk
                (Blk.mk
                  (tile (List.map constCell (Array.toList (Value.cells (Value.slice none 0 0))))
                    (Int.toNat (IntKind.wrap IntKind.i64 (s + 1)) * 1) AV.junk)
                  1 false false none)])) := by kernel_rfl
set_option maxRecDepth 100000 in
theorem tbC_eq (m : Int) (n : Int) (s : Int) (L : Nat) (T : List AV) (K : AExit → Tr AV → Mem → Prop) : tbC m n s L T K (Scr.fin [0, 1, 5, 6]) = (
    K AExit.normal
  (few [(0, AV.int IntKind.i64 n), (1, AV.int IntKind.i64 s), (5, AV.rs 0 0 L L none), (6, AV.int IntKind.i64 1)])
  (mm [Slot.blk (Blk.mk T 1 false false none)])) := by kernel_rfl
set_option maxRecDepth 100000 in
theorem tbD_eq (m : Int) (n : Int) (s : Int) (L : Nat) (T : List AV) (i : Int) (K : AExit → Tr AV → Mem → Prop) : tbD m n s L T i K (Scr.sp (Scr.fin [0, 1, 5, 6]) (Scr.fin [5])) = (
    (decide (i ≤ s) = true →
    K AExit.normal
      (few [(0, AV.int IntKind.i64 n), (1, AV.int IntKind.i64 s), (5, AV.rs 0 0 L L none), (6, AV.int IntKind.i64 i)])
      (mm [Slot.blk (Blk.mk T 1 false false none)])) ∧
  (decide (i ≤ s) = false →
    K (AExit.exit 0) (few [(5, AV.rs 0 0 L L none)]) (mm [Slot.blk (Blk.mk T 1 false false none)]))) := by kernel_rfl
set_option maxRecDepth 100000 in
theorem tbE_eq (m : Int) (n : Int) (s : Int) (L : Nat) (T : List AV) (i : Int) (K : AExit → Tr AV → Mem → Prop) : tbE m n s L T i K (Scr.op [false, false, false, false] (Scr.op [false, false] (Scr.op [false, true, false] (Scr.fin [0, 1, 5, 6])))) = (
    0 ≤ IntKind.wrap IntKind.i64 (n + 1) ∧
  IntKind.wrap IntKind.i64 (n + 1) ≤ IntKind.wrap IntKind.i64 (n + 1) ∧
    IntKind.wrap IntKind.i64 (n + 1) * 8 ≤ 281474976710656 ∧
      IntKind.wrap IntKind.i64 (n + 1) ≤ 281474976710656 ∧
        0 ≤ i ∧
          i + 1 ≤ (↑L : Int) ∧
            List.length T = L ∧
              0 + Int.toNat i * 1 + 1 ≤ L ∧
                K AExit.normal
                  (few
                    [(0, AV.int IntKind.i64 n), (1, AV.int IntKind.i64 s), (5, AV.rs 0 0 L L none),
                      (6, AV.int IntKind.i64 i)])
                  (mm
                    [Slot.blk
                        (Blk.mk
                          (splice T (0 + Int.toNat i * 1)
                            [AV.rs 1 0 (Int.toNat (IntKind.wrap IntKind.i64 (n + 1)))
                                (Int.toNat (IntKind.wrap IntKind.i64 (n + 1)) * 1) none])
                          1 false false none),
                      Slot.blk
                        (Blk.mk
                          (tile (List.map constCell (Array.toList (Value.cells (Value.int IntKind.i64 0))))
                            (Int.toNat (IntKind.wrap IntKind.i64 (n + 1)) * 1) AV.junk)
                          1 false false none)])) := by kernel_rfl
set_option maxRecDepth 100000 in
theorem tbF_eq (m : Int) (n : Int) (s : Int) (L : Nat) (T : List AV) (i : Int) (r : List Int) (K : AExit → Tr AV → Mem → Prop) : tbF m n s L T i r K (Scr.fin [0, 1, 5, 6, 7]) = (
    K AExit.normal
  (few
    [(0, AV.int IntKind.i64 n), (1, AV.int IntKind.i64 s), (5, AV.rs 0 0 L L none), (6, AV.int IntKind.i64 i),
      (7, AV.int IntKind.i64 2)])
  (mm [Slot.blk (Blk.mk T 1 false false none), Slot.blk (Blk.mk (List.map vi r) 1 false false none)])) := by kernel_rfl
set_option maxRecDepth 100000 in
theorem tbG_eq (m : Int) (n : Int) (s : Int) (L : Nat) (T : List AV) (i : Int) (k : Int) (r : List Int) (K : AExit → Tr AV → Mem → Prop) : tbG m n s L T i k r K (Scr.sp (Scr.fin [0, 1, 5, 6, 7]) (Scr.fin [0, 1, 5, 6])) = (
    (decide (k ≤ n) = true →
    K AExit.normal
      (few
        [(0, AV.int IntKind.i64 n), (1, AV.int IntKind.i64 s), (5, AV.rs 0 0 L L none), (6, AV.int IntKind.i64 i),
          (7, AV.int IntKind.i64 k)])
      (mm [Slot.blk (Blk.mk T 1 false false none), Slot.blk (Blk.mk (List.map vi r) 1 false false none)])) ∧
  (decide (k ≤ n) = false →
    K (AExit.exit 2)
      (few [(0, AV.int IntKind.i64 n), (1, AV.int IntKind.i64 s), (5, AV.rs 0 0 L L none), (6, AV.int IntKind.i64 i)])
      (mm [Slot.blk (Blk.mk T 1 false false none), Slot.blk (Blk.mk (List.map vi r) 1 false false none)]))) := by kernel_rfl
set_option maxRecDepth 100000 in
theorem tbH_eq (m : Int) (n : Int) (s : Int) (L : Nat) (T : List AV) (i : Int) (k : Int) (r : List Int) (K : AExit → Tr AV → Mem → Prop) : tbH m n s L T i k r K (Scr.fin [0, 1, 5, 6, 7, 8]) = (
    K AExit.normal
  (few
    [(0, AV.int IntKind.i64 n), (1, AV.int IntKind.i64 s), (5, AV.rs 0 0 L L none), (6, AV.int IntKind.i64 i),
      (7, AV.int IntKind.i64 k),
      (8,
        AV.int IntKind.i64
          (IntKind.wrap IntKind.i64 (Int.tdiv (IntKind.wrap IntKind.i64 (k * IntKind.wrap IntKind.i64 (k - 1))) 2)))])
  (mm [Slot.blk (Blk.mk T 1 false false none), Slot.blk (Blk.mk (List.map vi r) 1 false false none)])) := by kernel_rfl
set_option maxRecDepth 100000 in
theorem tbI_eq (m : Int) (n : Int) (s : Int) (L : Nat) (T : List AV) (i : Int) (k : Int) (b : Int) (r : List Int) (K : AExit → Tr AV → Mem → Prop) : tbI m n s L T i k b r K (Scr.fin [0, 1, 5, 6, 7, 8, 9]) = (
    K AExit.normal
  (few
    [(0, AV.int IntKind.i64 n), (1, AV.int IntKind.i64 s), (5, AV.rs 0 0 L L none), (6, AV.int IntKind.i64 i),
      (7, AV.int IntKind.i64 k), (8, AV.int IntKind.i64 b), (9, AV.int IntKind.i64 1)])
  (mm [Slot.blk (Blk.mk T 1 false false none), Slot.blk (Blk.mk (List.map vi r) 1 false false none)])) := by kernel_rfl
set_option maxRecDepth 100000 in
theorem tbJ_eq (m : Int) (n : Int) (s : Int) (L : Nat) (T : List AV) (i : Int) (k : Int) (b : Int) (j : Int) (r : List Int) (K : AExit → Tr AV → Mem → Prop) : tbJ m n s L T i k b j r K (Scr.sp (Scr.tt (Scr.sp (Scr.fin [0, 1, 5, 6, 7, 8, 9]) (Scr.fin [0, 1, 5, 6, 7, 8])))
  (Scr.ff (Scr.ff (Scr.fin [0, 1, 5, 6, 7, 8])))) = (
    (decide (j < k) = true →
    (decide (i > 1) = true →
        K AExit.normal
          (few
            [(0, AV.int IntKind.i64 n), (1, AV.int IntKind.i64 s), (5, AV.rs 0 0 L L none), (6, AV.int IntKind.i64 i),
              (7, AV.int IntKind.i64 k), (8, AV.int IntKind.i64 b), (9, AV.int IntKind.i64 j)])
          (mm [Slot.blk (Blk.mk T 1 false false none), Slot.blk (Blk.mk (List.map vi r) 1 false false none)])) ∧
      (decide (i > 1) = false →
        K (AExit.exit 4)
          (few
            [(0, AV.int IntKind.i64 n), (1, AV.int IntKind.i64 s), (5, AV.rs 0 0 L L none), (6, AV.int IntKind.i64 i),
              (7, AV.int IntKind.i64 k), (8, AV.int IntKind.i64 b)])
          (mm [Slot.blk (Blk.mk T 1 false false none), Slot.blk (Blk.mk (List.map vi r) 1 false false none)]))) ∧
  (decide (j < k) = false →
    K (AExit.exit 4)
      (few
        [(0, AV.int IntKind.i64 n), (1, AV.int IntKind.i64 s), (5, AV.rs 0 0 L L none), (6, AV.int IntKind.i64 i),
          (7, AV.int IntKind.i64 k), (8, AV.int IntKind.i64 b)])
      (mm [Slot.blk (Blk.mk T 1 false false none), Slot.blk (Blk.mk (List.map vi r) 1 false false none)]))) := by kernel_rfl
set_option maxRecDepth 100000 in
theorem tbM_eq (m : Int) (n : Int) (s : Int) (L : Nat) (T : List AV) (i : Int) (k : Int) (b : Int) (j : Int) (r : List Int) (q : List Int) (K : AExit → Tr AV → Mem → Prop) : tbM m n s L T i k b j r q K (Scr.op [false, false]
  (Scr.ld [Ek.is (AV.ds (SH.mk false false none) (List.map vi q) (List.length q))]
    (Scr.op [false, false]
      (Scr.op [false, false, false]
        (Scr.ld [Ek.is (vi (List.getD q (Int.toNat (k - j)) 0))]
          (Scr.op [false]
            (Scr.op [false, false]
              (Scr.ld [Ek.is (AV.rs 1 0 (List.length r) (List.length r) none)]
                (Scr.op [false, false]
                  (Scr.op [false, false]
                    (Scr.ld [Ek.is (vi (List.getD r (Int.toNat j) 0))]
                      (Scr.op [false, false] (Scr.fin [0, 1, 5, 6, 7, 8, 9]))))))))))))) = (
    0 ≤ IntKind.wrap IntKind.i64 (i - 1) ∧
  IntKind.wrap IntKind.i64 (i - 1) + 1 ≤ (↑L : Int) ∧
    List.length T = L ∧
      0 + Int.toNat (IntKind.wrap IntKind.i64 (i - 1)) * 1 + 1 ≤ List.length T ∧
        List.getD T (0 + Int.toNat (IntKind.wrap IntKind.i64 (i - 1)) * 1) AV.junk =
            AV.ds (SH.mk false false none) (List.map vi q) (List.length q) ∧
          Int.toNat (IntKind.wrap IntKind.i64 (k - j)) * 1 ≤ List.length (List.map vi q) ∧
            0 ≤ IntKind.wrap IntKind.i64 (k - j) ∧
              IntKind.wrap IntKind.i64 (k - j) + 1 ≤ (↑(List.length q) : Int) ∧
                1 ≤ List.length (List.drop (Int.toNat (IntKind.wrap IntKind.i64 (k - j)) * 1) (List.map vi q)) ∧
                  List.getD (List.drop (Int.toNat (IntKind.wrap IntKind.i64 (k - j)) * 1) (List.map vi q)) 0 AV.junk =
                      vi (List.getD q (Int.toNat (k - j)) 0) ∧
                    0 ≤ i ∧
                      i + 1 ≤ (↑L : Int) ∧
                        List.length T = L ∧
                          0 + Int.toNat i * 1 + 1 ≤ List.length T ∧
                            List.getD T (0 + Int.toNat i * 1) AV.junk = AV.rs 1 0 (List.length r) (List.length r) none ∧
                              0 ≤ j ∧
                                j + 1 ≤ (↑(List.length r) : Int) ∧
                                  List.length (List.map vi r) = List.length r ∧
                                    0 + Int.toNat j * 1 + 1 ≤ List.length (List.map vi r) ∧
                                      List.getD (List.map vi r) (0 + Int.toNat j * 1) AV.junk =
                                          vi (List.getD r (Int.toNat j) 0) ∧
                                        K AExit.normal
                                          (few
                                            [(0, AV.int IntKind.i64 n), (1, AV.int IntKind.i64 s),
                                              (5, AV.rs 0 0 L L none), (6, AV.int IntKind.i64 i),
                                              (7, AV.int IntKind.i64 k),
                                              (8,
                                                AV.int IntKind.i64
                                                  (if
                                                      IntKind.wrap IntKind.i64
                                                          (IntKind.wrap IntKind.i64
                                                              (j + List.getD q (Int.toNat (k - j)) 0) +
                                                            List.getD r (Int.toNat j) 0) <
                                                        b then
                                                    IntKind.wrap IntKind.i64
                                                      (IntKind.wrap IntKind.i64
                                                          (j + List.getD q (Int.toNat (k - j)) 0) +
                                                        List.getD r (Int.toNat j) 0)
                                                  else b)),
                                              (9, AV.int IntKind.i64 j)])
                                          (mm
                                            [Slot.blk (Blk.mk T 1 false false none),
                                              Slot.blk (Blk.mk (List.map vi r) 1 false false none)])) := by kernel_rfl
set_option maxRecDepth 100000 in
theorem tbN_eq (m : Int) (n : Int) (s : Int) (L : Nat) (T : List AV) (i : Int) (k : Int) (b : Int) (j : Int) (r : List Int) (K : AExit → Tr AV → Mem → Prop) : tbN m n s L T i k b j r K (Scr.fin [0, 1, 5, 6, 7, 8, 9]) = (
    K AExit.normal
  (few
    [(0, AV.int IntKind.i64 n), (1, AV.int IntKind.i64 s), (5, AV.rs 0 0 L L none), (6, AV.int IntKind.i64 i),
      (7, AV.int IntKind.i64 k), (8, AV.int IntKind.i64 b), (9, AV.int IntKind.i64 (IntKind.wrap IntKind.i64 (j + 1)))])
  (mm [Slot.blk (Blk.mk T 1 false false none), Slot.blk (Blk.mk (List.map vi r) 1 false false none)])) := by kernel_rfl
set_option maxRecDepth 100000 in
theorem tbO_eq (m : Int) (n : Int) (s : Int) (L : Nat) (T : List AV) (i : Int) (k : Int) (b : Int) (r : List Int) (K : AExit → Tr AV → Mem → Prop) : tbO m n s L T i k b r K (Scr.op [false, false]
  (Scr.ld [Ek.is (AV.rs 1 0 (List.length r) (List.length r) none)]
    (Scr.op [false, false] (Scr.op [false, false] (Scr.op [false, true, false] (Scr.fin [0, 1, 5, 6, 7])))))) = (
    0 ≤ i ∧
  i + 1 ≤ (↑L : Int) ∧
    List.length T = L ∧
      0 + Int.toNat i * 1 + 1 ≤ List.length T ∧
        List.getD T (0 + Int.toNat i * 1) AV.junk = AV.rs 1 0 (List.length r) (List.length r) none ∧
          0 ≤ k ∧
            k + 1 ≤ (↑(List.length r) : Int) ∧
              List.length (List.map vi r) = List.length r ∧
                0 + Int.toNat k * 1 + 1 ≤ List.length r ∧
                  K AExit.normal
                    (few
                      [(0, AV.int IntKind.i64 n), (1, AV.int IntKind.i64 s), (5, AV.rs 0 0 L L none),
                        (6, AV.int IntKind.i64 i), (7, AV.int IntKind.i64 k)])
                    (mm
                      [Slot.blk (Blk.mk T 1 false false none),
                        Slot.blk
                          (Blk.mk (splice (List.map vi r) (0 + Int.toNat k * 1) [AV.int IntKind.i64 b]) 1 false false
                            none)])) := by kernel_rfl
set_option maxRecDepth 100000 in
theorem tbQ_eq (m : Int) (n : Int) (s : Int) (L : Nat) (T : List AV) (i : Int) (k : Int) (r : List Int) (K : AExit → Tr AV → Mem → Prop) : tbQ m n s L T i k r K (Scr.fin [0, 1, 5, 6, 7]) = (
    K AExit.normal
  (few
    [(0, AV.int IntKind.i64 n), (1, AV.int IntKind.i64 s), (5, AV.rs 0 0 L L none), (6, AV.int IntKind.i64 i),
      (7, AV.int IntKind.i64 (IntKind.wrap IntKind.i64 (k + 1)))])
  (mm [Slot.blk (Blk.mk T 1 false false none), Slot.blk (Blk.mk (List.map vi r) 1 false false none)])) := by kernel_rfl
set_option maxRecDepth 100000 in
theorem tbR_eq (m : Int) (n : Int) (s : Int) (L : Nat) (T : List AV) (i : Int) (r : List Int) (K : AExit → Tr AV → Mem → Prop) : tbR m n s L T i r K (Scr.adj (Adj.frzc 0 (Int.toNat i) 1 (List.length r)) (Scr.finR [0, 1, 5, 6] [(0, true)])) = (
    (List.getD T (Int.toNat i) AV.junk = AV.rs 1 0 (List.length r) (List.length (List.map vi r)) none ∧
    Int.toNat i < List.length T ∧
      List.length r * 1 = List.length (List.map vi r) ∧ ∀ (a : AV), a ∈ List.map vi r → AV.flat a = true) ∧
  AV.m1L (List.set T (Int.toNat i) (AV.ds (SH.mk false false none) (List.map vi r) (List.length r))) = true ∧
    K AExit.normal
      (few
        [(0, AV.int IntKind.i64 n), (1, AV.int IntKind.i64 s), (5, AV.rs 0 0 L L none),
          (6, AV.int IntKind.i64 (IntKind.wrap IntKind.i64 (i + 1)))])
      (mm
        [Slot.blk
            (Blk.mk (List.set T (Int.toNat i) (AV.ds (SH.mk false false none) (List.map vi r) (List.length r))) 1 false
              false none)])) := by kernel_rfl
set_option maxRecDepth 100000 in
theorem tbU_eq (m : Int) (L : Nat) (T : List AV) (K : AExit → Tr AV → Mem → Prop) : tbU m L T K (Scr.fin [4]) = (
    K AExit.ret (few [(4, AV.rs 0 0 L L none)]) (mm [Slot.blk (Blk.mk T 1 false false none)])) := by kernel_rfl
end Go.Proofs.YtpiincgiakkljaaGreatDoor
/-
  fluxionref18.table: its contract.
-/
namespace Go.Proofs.YtpiincgiakkljaaGreatDoor
open Go

def cellL (q r : List Int) (k : Nat) : Nat → Nat → Int → Int
  | 0, _, b => b
  | f + 1, j, b => cellL q r k f (j + 1) (if ((j : Int) + q.getD (k - j) 0) + r.getD j 0 < b then ((j : Int) + q.getD (k - j) 0) + r.getD j 0 else b)

def tri2 (k : Nat) : Int := ((k * (k - 1) / 2 : Nat) : Int)
def cellR (fst : Bool) (q r : List Int) (k : Nat) : Int := if fst = true then tri2 k else cellL q r k (k - 1) 1 (tri2 k)

def rowL (fst : Bool) (q : List Int) : Nat → Nat → List Int → List Int
  | 0, _, r => r
  | f + 1, k, r => rowL fst q f (k + 1) (r.set k (cellR fst q r k))

def rowsN (n : Nat) : Nat → List Int
  | 0 => []
  | a + 1 => rowL (a == 0) (rowsN n a) (n - 1) 2 (List.replicate (n + 1) 0)

noncomputable def dsR (r : List Int) : AV := .ds {} (r.map vi) r.length
noncomputable def rowAt (n i a : Nat) : AV := if 1 ≤ a ∧ a < i then dsR (rowsN n a) else .nils
noncomputable def tabT (n s i : Nat) : List AV := (List.range (s + 1)).map (rowAt n i)

def BRow (n : Nat) (r : List Int) : Prop := r.length = n + 1 ∧ ∀ j, j < n + 1 → 0 ≤ r.getD j 0 ∧ r.getD j 0 ≤ 1000

theorem tri2_bound {k : Nat} (h : k ≤ 40) : 0 ≤ tri2 k ∧ tri2 k ≤ 1000 := by
  unfold tri2
  have : k * (k - 1) ≤ 40 * 39 := Nat.mul_le_mul h (by omega)
  omega

theorem cellL_bound {q r : List Int} {k n : Nat} (hq : BRow n q) (hr : BRow n r) (hk : k ≤ n) : ∀ (f j : Nat) (b : Int), j + f ≤ k → 0 ≤ b ∧ b ≤ 1000 → 0 ≤ cellL q r k f j b ∧ cellL q r k f j b ≤ 1000
  | 0, _, _, _, hb => hb
  | f + 1, j, b, hf, hb => by
    rw [cellL]
    refine cellL_bound hq hr hk f (j + 1) _ (by omega) ?_
    have h1 := hq.2 (k - j) (by omega)
    have h2 := hr.2 j (by omega)
    split <;> omega

theorem set_brow {n k : Nat} {r : List Int} {x : Int} (hr : BRow n r) (hk : k ≤ n) (hx : 0 ≤ x ∧ x ≤ 1000) : BRow n (r.set k x) := by
  refine ⟨by simpa using hr.1, fun j hj => ?_⟩
  rw [List.getD_eq_getElem?_getD, List.getElem?_set]
  have hl := hr.1
  by_cases h : k = j
  · rw [if_pos h, if_pos (by omega)]; exact hx
  · rw [if_neg h, ← List.getD_eq_getElem?_getD]; exact hr.2 j hj

theorem cellR_bound {fst : Bool} {q r : List Int} {k n : Nat} (hq : fst = false → BRow n q) (hr : BRow n r) (hk0 : 1 ≤ k) (hk : k ≤ n) (hn : n ≤ 40) : 0 ≤ cellR fst q r k ∧ cellR fst q r k ≤ 1000 := by
  unfold cellR
  split
  · exact tri2_bound (by omega)
  · exact cellL_bound (hq (by simpa using ‹¬ fst = true›)) hr hk _ _ _ (by omega) (tri2_bound (by omega))

theorem rowL_brow {fst : Bool} {q : List Int} {n : Nat} (hq : fst = false → BRow n q) (hn : n ≤ 40) : ∀ (f k : Nat) (r : List Int), 1 ≤ k → k + f ≤ n + 1 → BRow n r → BRow n (rowL fst q f k r)
  | 0, _, _, _, _, hr => hr
  | f + 1, k, r, hk, hf, hr => rowL_brow hq hn f (k + 1) _ (by omega) (by omega) (set_brow hr (by omega) (cellR_bound hq hr hk (by omega) hn))

theorem zero_brow (n : Nat) : BRow n (List.replicate (n + 1) 0) := by
  refine ⟨by simp, fun j hj => ?_⟩
  simp [List.getD_eq_getElem?_getD, List.getElem?_replicate, hj]

theorem rowsN_brow {n : Nat} (h1 : 1 ≤ n) (hn : n ≤ 40) : ∀ a, 1 ≤ a → BRow n (rowsN n a)
  | a + 1, _ => by
    rw [rowsN]
    refine rowL_brow (fun h => rowsN_brow h1 hn a ?_) hn _ _ _ (by omega) (by omega) (zero_brow n)
    have : ¬ a = 0 := by simpa using h
    omega

theorem tile_nils (n : Nat) : tile (List.map constCell (Array.toList (Value.cells (Value.slice none 0 0)))) n AV.junk = List.replicate n AV.nils := by
  unfold tile
  apply List.ext_getElem
  · simp
  · intro i h1 h2
    simp at h1
    have : (List.map constCell (Array.toList (Value.cells (Value.slice none 0 0)))) = [AV.nils] := by kernel_rfl
    simp [this, Nat.mod_one]

theorem tabT_one (n s : Nat) : List.replicate (s + 1) AV.nils = tabT n s 1 := by
  apply List.ext_getElem
  · simp [tabT]
  · intro i h1 h2
    simp only [tabT, List.getElem_replicate, List.getElem_map, List.getElem_range, rowAt]
    rw [if_neg (by omega)]

theorem tabT_length (n s i : Nat) : (tabT n s i).length = s + 1 := by simp [tabT]

theorem tabT_getD {n s i a : Nat} (h : a ≤ s) : (tabT n s i).getD a .junk = rowAt n i a := by
  simp [tabT, List.getD_eq_getElem?_getD, show a < s + 1 by omega]

theorem tabT_next {n s i : Nat} (h0 : 1 ≤ i) (h : i ≤ s) (x : AV) : ((tabT n s i).set i x).set i (dsR (rowsN n i)) = tabT n s (i + 1) := by
  rw [List.set_set]
  apply List.ext_getElem
  · simp [tabT]
  · intro a h1 h2
    rw [List.getElem_set]
    split
    · rename_i e
      subst e
      simp only [tabT, List.getElem_map, List.getElem_range, rowAt]
      rw [if_pos (by omega)]
    · rename_i e
      simp only [tabT, List.getElem_map, List.getElem_range, rowAt]
      by_cases q : 1 ≤ a ∧ a < i
      · rw [if_pos q, if_pos (by omega)]
      · rw [if_neg q, if_neg (by omega)]

theorem m1L_all : ∀ {l : List AV}, (∀ a ∈ l, a.m1 = true) → AV.m1L l = true
  | [], _ => rfl
  | a :: l, h => by
    simp only [AV.m1L, Bool.and_eq_true]
    exact ⟨h a List.mem_cons_self, m1L_all fun b hb => h b (List.mem_cons_of_mem _ hb)⟩

theorem tabT_flat (n s i : Nat) : ∀ a ∈ tabT n s i, a.flat = true := by
  intro a ha
  simp only [tabT, List.mem_map] at ha
  obtain ⟨j, _, rfl⟩ := ha
  unfold rowAt
  split <;> rfl

theorem tabT_m1 (n s i : Nat) : AV.m1L (tabT n s i) = true := m1L_all fun a ha => by
  simp only [tabT, List.mem_map] at ha
  obtain ⟨j, _, rfl⟩ := ha
  unfold rowAt
  split <;> simp [AV.m1, dsR]

theorem splice_one {α : Type} {l : List α} {i : Nat} {x : α} (h : i < l.length) : splice l i [x] = l.set i x := by
  unfold splice
  rw [List.set_eq_take_append_cons_drop, if_pos h]
  simp

theorem getD_set_self {l : List AV} {i : Nat} {x : AV} (h : i < l.length) : (l.set i x).getD i .junk = x := by
  simp [List.getD_eq_getElem?_getD, h]

theorem getD_set_ne {l : List AV} {i j : Nat} {x : AV} (h : i ≠ j) : (l.set i x).getD j .junk = l.getD j .junk := by
  simp [List.getD_eq_getElem?_getD, List.getElem?_set, h]

theorem F30_split : F30 = .seq (cp [0] F30) (.seq (cp [1,0] F30) (.seq (.seq (cp [1,1,0,0] F30) (.block 0 (.loop (.seq (cp [1,1,0,1,0,0,0] F30) (.seq (.block 1 (.seq (cp [1,1,0,1,0,0,1,0,0,0] F30) (.seq (cp [1,1,0,1,0,0,1,0,0,1,0] F30)
    (.block 2 (.loop (.seq (cp [1,1,0,1,0,0,1,0,0,1,1,0,0,0] F30) (.seq (.block 3 (.seq (cp [1,1,0,1,0,0,1,0,0,1,1,0,0,1,0,0,0] F30) (.seq (.seq (cp [1,1,0,1,0,0,1,0,0,1,1,0,0,1,0,0,1,0,0] F30)
      (.block 4 (.loop (.seq (cp [1,1,0,1,0,0,1,0,0,1,1,0,0,1,0,0,1,0,1,0,0,0] F30) (.seq (.block 5 (cp [1,1,0,1,0,0,1,0,0,1,1,0,0,1,0,0,1,0,1,0,0,1,0,0] F30)) (cp [1,1,0,1,0,0,1,0,0,1,1,0,0,1,0,0,1,0,1,0,0,1,1] F30))))))
        (cp [1,1,0,1,0,0,1,0,0,1,1,0,0,1,0,0,1,1] F30)))) (cp [1,1,0,1,0,0,1,0,0,1,1,0,0,1,1] F30)))))))) (cp [1,1,0,1,0,0,1,1] F30)))))) (cp [1,1,1] F30))) := by kernel_rfl

end Go.Proofs.YtpiincgiakkljaaGreatDoor
/-
  fluxionref18.table: its contract (the walk).
-/
namespace Go.Proofs.YtpiincgiakkljaaGreatDoor
open Go

set_option maxRecDepth 100000 in
theorem awp_inner {m : Int} {n s L : Nat} {T : List AV} {i k : Nat} {q r : List Int} {C : Int} {c : Ctx} {st : St} {Q : Post} (hel : ∀ i t L, c.φ0 i t = some L → i < 0)
    (hn : n ≤ 40) (hL : T.length = L) (hi0 : 1 ≤ i) (hiL : i + 1 ≤ L) (hL9 : L ≤ 1000) (hk0 : 1 ≤ k) (hk : k ≤ n) (hT : T.getD i .junk = .rs 1 0 r.length r.length none) (hq : i ≠ 1 → T.getD (i - 1) .junk = dsR q) (hbq : i ≠ 1 → BRow n q) (hbr : BRow n r)
    (hC : cellR (i == 1) q r k = C) (hst : st.is (tbT n s L [(6, vi i), (7, vi k), (8, vi (tri2 k)), (9, vi 1)]) (mm [tabB T, listB r]))
    (hQ : Lf Q .normal (tbT n s L [(6, vi i), (7, vi k), (8, vi C)]) (mm [tabB T, listB r])) :
    AWP prog (gl m) 73 c (.block 4 (.loop (.seq (cp [1,1,0,1,0,0,1,0,0,1,1,0,0,1,0,0,1,0,1,0,0,0] F30) (.seq (.block 5 (cp [1,1,0,1,0,0,1,0,0,1,1,0,0,1,0,0,1,0,1,0,0,1,0,0] F30)) (cp [1,1,0,1,0,0,1,0,0,1,1,0,0,1,0,0,1,0,1,0,0,1,1] F30))))) st Q := by
  have hlr := hbr.1
  refine awp_block (awp_loop_sx (α := Nat × Int) (fun a => 1 ≤ a.1 ∧ a.1 ≤ k ∧ 0 ≤ a.2 ∧ a.2 ≤ 1000 ∧ (if i = 1 then a.2 = C else cellL q r k (k - a.1) a.1 a.2 = C)) (fun a => tbT n s L [(6, vi i), (7, vi k), (8, vi a.2), (9, vi a.1)]) (fun _ => mm [tabB T, listB r]) (fun a => k - a.1) (fun a st hI hst => ?_) (a := (1, tri2 k)) ⟨by omega, by simp only; omega, (tri2_bound (by omega)).1, (tri2_bound (by omega)).2, ?_⟩ hst)
  · obtain ⟨j, b⟩ := a
    obtain ⟨h1, h2, h3, h4, h5⟩ := hI
    simp only at h1 h2 h3 h4 h5 hst
    refine awp_seq (awp_sx kx0_ok hel ((tbJ_eq m n s L T i k b j r _).mpr ⟨fun g1 => ⟨fun g2 st1 s1 => ?_, fun g2 st1 s1 => ?_⟩, fun g1 st1 s1 => ?_⟩) hst)
    · have g1' : j < k := by have := of_decide_eq_true g1; omega
      have g2' : i ≠ 1 := by have := of_decide_eq_true g2; omega
      rw [if_neg g2'] at h5
      have hq' := hbq g2'
      have hlq := hq'.1
      have w1 : IntKind.wrap IntKind.i64 ((i : Int) - 1) = ((i - 1 : Nat) : Int) := by rw [wrap_ok (by omega) (by omega)]; omega
      have w2 : IntKind.wrap IntKind.i64 ((k : Int) - j) = ((k - j : Nat) : Int) := by rw [wrap_ok (by omega) (by omega)]; omega
      have e1 : ((k : Int) - j).toNat = k - j := by omega
      have b1 := hq'.2 (k - j) (by omega)
      have b2 := hbr.2 j (by omega)
      have w3 : IntKind.wrap IntKind.i64 ((j : Int) + q.getD (k - j) 0) = (j : Int) + q.getD (k - j) 0 := wrap_ok (by omega) (by omega)
      have w4 : IntKind.wrap IntKind.i64 (((j : Int) + q.getD (k - j) 0) + r.getD j 0) = ((j : Int) + q.getD (k - j) 0) + r.getD j 0 := wrap_ok (by omega) (by omega)
      refine awp_seq (awp_block (awp_sx kx0_ok hel ((tbM_eq m n s L T i k b j r q _).mpr ?_) s1))
      simp only [w1, w2, e1, Int.toNat_natCast, Nat.zero_add, Nat.mul_one, w3, w4, List.length_map, List.length_drop]
      refine ⟨by omega, by omega, hL, by omega, hq g2', by omega, by omega, by omega, by omega, ?_, by omega, by omega, hL, by omega, hT, by omega, by omega, trivial, by omega, ?_, fun st2 s2 => ?_⟩
      · rw [List.getD_eq_getElem?_getD, List.getElem?_drop, Nat.add_zero, ← List.getD_eq_getElem?_getD]
        exact getD_vi (by omega)
      · exact getD_vi (by omega)
      · refine awp_sx kx0_ok hel ((tbN_eq m n s L T i k _ j r _).mpr fun st3 s3 => ?_) s2
        have w5 : IntKind.wrap IntKind.i64 ((j : Int) + 1) = ((j + 1 : Nat) : Int) := by rw [wrap_ok (by omega) (by omega)]; omega
        rw [w5] at s3
        rw [show k - j = (k - (j + 1)) + 1 by omega, cellL] at h5
        obtain ⟨b', hb'⟩ : ∃ b', b' = if (j : Int) + q.getD (k - j) 0 + r.getD j 0 < b then (j : Int) + q.getD (k - j) 0 + r.getD j 0 else b := ⟨_, rfl⟩
        rw [← hb'] at s3 h5
        have hb2 : 0 ≤ b' ∧ b' ≤ 1000 := by rw [hb']; split <;> omega
        refine ⟨(j + 1, b'), ⟨by simp only; omega, by simp only; omega, hb2.1, hb2.2, ?_⟩, by simp only; omega, s3⟩
        rw [if_neg g2']
        exact h5
    · have g2' : i = 1 := by have := of_decide_eq_false g2; omega
      rw [if_pos g2'] at h5
      subst h5
      exact hQ st1 s1
    · have g1' : j = k := by have := of_decide_eq_false g1; omega
      have : b = C := by
        split at h5
        · exact h5
        · rw [g1', Nat.sub_self, cellL] at h5; exact h5
      subst this
      exact hQ st1 s1
  · simp only
    unfold cellR at hC
    split
    · rename_i h; rw [if_pos (by simpa using h)] at hC; exact hC
    · rename_i h; rw [if_neg (by simpa using h)] at hC; exact hC

set_option maxRecDepth 100000 in
theorem awp_middle {m : Int} {n s L : Nat} {T : List AV} {i : Nat} {q R : List Int} {c : Ctx} {st : St} {Q : Post} (hel : ∀ i t L, c.φ0 i t = some L → i < 0)
    (hn0 : 1 ≤ n) (hn : n ≤ 40) (hL : T.length = L) (hi0 : 1 ≤ i) (hiL : i + 1 ≤ L) (hL9 : L ≤ 1000) (hT : T.getD i .junk = .rs 1 0 (n + 1) (n + 1) none) (hq : i ≠ 1 → T.getD (i - 1) .junk = dsR q) (hbq : i ≠ 1 → BRow n q)
    (hR : rowL (i == 1) q (n - 1) 2 (List.replicate (n + 1) 0) = R) (hst : st.is (tbT n s L [(6, vi i), (7, vi 2)]) (mm [tabB T, listB (List.replicate (n + 1) 0)]))
    (hQ : Lf Q .normal (tbT n s L [(6, vi i)]) (mm [tabB T, listB R])) :
    AWP prog (gl m) 73 c (.block 2 (.loop (.seq (cp [1,1,0,1,0,0,1,0,0,1,1,0,0,0] F30) (.seq (.block 3 (.seq (cp [1,1,0,1,0,0,1,0,0,1,1,0,0,1,0,0,0] F30) (.seq (.seq (cp [1,1,0,1,0,0,1,0,0,1,1,0,0,1,0,0,1,0,0] F30)
      (.block 4 (.loop (.seq (cp [1,1,0,1,0,0,1,0,0,1,1,0,0,1,0,0,1,0,1,0,0,0] F30) (.seq (.block 5 (cp [1,1,0,1,0,0,1,0,0,1,1,0,0,1,0,0,1,0,1,0,0,1,0,0] F30)) (cp [1,1,0,1,0,0,1,0,0,1,1,0,0,1,0,0,1,0,1,0,0,1,1] F30))))))
        (cp [1,1,0,1,0,0,1,0,0,1,1,0,0,1,0,0,1,1] F30)))) (cp [1,1,0,1,0,0,1,0,0,1,1,0,0,1,1] F30))))) st Q := by
  refine awp_block (awp_loop_sx (α := Nat × List Int) (fun a => 2 ≤ a.1 ∧ a.1 ≤ n + 1 ∧ BRow n a.2 ∧ rowL (i == 1) q (n + 1 - a.1) a.1 a.2 = R) (fun a => tbT n s L [(6, vi i), (7, vi a.1)]) (fun a => mm [tabB T, listB a.2]) (fun a => n + 1 - a.1) (fun a st hI hst => ?_) (a := (2, List.replicate (n + 1) 0)) ⟨by omega, by simp only; omega, zero_brow n, ?_⟩ hst)
  · obtain ⟨k, r⟩ := a
    obtain ⟨h1, h2, h3, h4⟩ := hI
    simp only at h1 h2 h3 h4 hst
    have hlr := h3.1
    have hbqf : (i == 1) = false → BRow n q := fun h => hbq (by simpa using h)
    refine awp_seq (awp_sx kx0_ok hel ((tbG_eq m n s L T i k r _).mpr ⟨fun g1 st1 s1 => ?_, fun g1 st1 s1 => ?_⟩) hst)
    · have g1' : k ≤ n := by have := of_decide_eq_true g1; omega
      have hkm : k * (k - 1) ≤ 40 * 39 := Nat.mul_le_mul (by omega) (by omega)
      have w1 : IntKind.wrap IntKind.i64 ((k : Int) - 1) = ((k - 1 : Nat) : Int) := by rw [wrap_ok (by omega) (by omega)]; omega
      have w2 : IntKind.wrap IntKind.i64 ((k : Int) * ((k - 1 : Nat) : Int)) = ((k * (k - 1) : Nat) : Int) := by rw [← Int.natCast_mul]; exact wrap_ok (by omega) (by omega)
      have w3 : IntKind.wrap IntKind.i64 (Int.tdiv ((k * (k - 1) : Nat) : Int) 2) = tri2 k := by
        rw [show Int.tdiv ((k * (k - 1) : Nat) : Int) 2 = tri2 k from rfl]
        have := tri2_bound (k := k) (by omega)
        exact wrap_ok (by omega) (by omega)
      refine awp_seq (awp_block (awp_seq (awp_sx kx0_ok hel ((tbH_eq m n s L T i k r _).mpr ?_) s1)))
      rw [w1, w2, w3]
      intro st2 s2
      refine awp_seq (awp_seq (awp_sx kx0_ok hel ((tbI_eq m n s L T i k (tri2 k) r _).mpr fun st3 s3 => ?_) s2))
      refine awp_inner hel hn hL hi0 hiL hL9 (by omega) g1' (by rw [hlr]; exact hT) hq hbq h3 rfl s3 fun st4 s4 => ?_
      have hb := cellR_bound (k := k) hbqf h3 (by omega) g1' hn
      refine awp_sx kx0_ok hel ((tbO_eq m n s L T i k (cellR (i == 1) q r k) r _).mpr ?_) s4
      simp only [Int.toNat_natCast, Nat.zero_add, Nat.mul_one, List.length_map]
      refine ⟨by omega, by omega, hL, by omega, by rw [hlr]; exact hT, by omega, by omega, trivial, by omega, ?_⟩
      have hsp : splice (List.map vi r) k [AV.int IntKind.i64 (cellR (i == 1) q r k)] = List.map vi (r.set k (cellR (i == 1) q r k)) := splice_set vi _ (by omega)
      rw [hsp]
      intro st5 s5
      refine awp_sx kx0_ok hel ((tbQ_eq m n s L T i k (r.set k (cellR (i == 1) q r k)) _).mpr fun st6 s6 => ?_) s5
      have w5 : IntKind.wrap IntKind.i64 ((k : Int) + 1) = ((k + 1 : Nat) : Int) := by rw [wrap_ok (by omega) (by omega)]; omega
      rw [w5] at s6
      refine ⟨(k + 1, _), ⟨by simp only; omega, by simp only; omega, set_brow h3 g1' hb, ?_⟩, by simp only; omega, s6⟩
      simp only
      rw [show n + 1 - k = (n + 1 - (k + 1)) + 1 by omega, rowL] at h4
      exact h4
    · have g1' : k = n + 1 := by have := of_decide_eq_false g1; omega
      subst g1'
      rw [Nat.sub_self, rowL] at h4
      subst h4
      exact hQ st1 s1
  · simp only
    rw [← hR]
    congr 1

theorem flat_vi' (l : List Int) : ∀ a ∈ List.map vi l, a.flat = true := fun a ha => by
  obtain ⟨x, _, rfl⟩ := List.mem_map.1 ha
  rfl

set_option maxRecDepth 100000 in
theorem table_hasL (m : Int) (n s : Nat) (hn0 : 1 ≤ n) (hn : n ≤ 40) (hs : s ≤ 8) : HasL prog (gl m) 30 [vi n, vi s] (.ds {} (tabT n s (s + 1)) (s + 1)) := by
  refine hasL_sx Tryz.func30 (code := F30) (by kernel_rfl) (of_decide_eq_true (by kernel_rfl)) fun c st hel hs0 => ?_
  rw [F30_split]
  refine awp_seq (awp_sx kx0_ok hel ((tbA_eq m n s _).mpr fun st1 h1 => ?_) hs0)
  have w1 : IntKind.wrap IntKind.i64 ((s : Int) + 1) = ((s + 1 : Nat) : Int) := by rw [wrap_ok (by omega) (by omega)]; omega
  have w2 : IntKind.wrap IntKind.i64 ((n : Int) + 1) = ((n + 1 : Nat) : Int) := by rw [wrap_ok (by omega) (by omega)]; omega
  refine awp_seq (awp_sx kx0_ok hel ((tbB_eq m n s _).mpr ?_) h1)
  rw [w1]
  refine ⟨by omega, by omega, by omega, by omega, ?_⟩
  rw [Int.toNat_natCast, Nat.mul_one, tile_nils, tabT_one n s]
  intro st2 h2
  refine awp_seq (awp_seq (awp_sx kx0_ok hel ((tbC_eq m n s (s + 1) (tabT n s 1) _).mpr fun st3 h3 => ?_) h2))
  refine awp_block (awp_loop_sx (α := Nat) (fun i => 1 ≤ i ∧ i ≤ s + 1) (fun i => tbT n s (s + 1) [(6, vi i)]) (fun i => mm [tabB (tabT n s i)]) (fun i => s + 1 - i) (fun i st hI hst => ?_) (a := 1) ⟨by omega, by omega⟩ h3)
  obtain ⟨i1, i2⟩ := hI
  refine awp_seq (awp_sx kx0_ok hel ((tbD_eq m n s (s + 1) (tabT n s i) i _).mpr ⟨fun g1 st4 h4 => ?_, fun g1 st4 h4 => ?_⟩) hst)
  · have g1' : i ≤ s := by have := of_decide_eq_true g1; omega
    have hl := tabT_length n s i
    refine awp_seq (awp_block (awp_seq (awp_sx kx0_ok hel ((tbE_eq m n s (s + 1) (tabT n s i) i _).mpr ?_) h4)))
    rw [w2]
    simp only [Int.toNat_natCast, Nat.zero_add, Nat.mul_one]
    refine ⟨by omega, by omega, by omega, by omega, by omega, by omega, hl, by omega, ?_⟩
    rw [splice_one (by omega), tile_zero]
    intro st5 h5
    refine awp_seq (awp_sx kx0_ok hel ((tbF_eq m n s (s + 1) _ i (List.replicate (n + 1) 0) _).mpr fun st6 h6 => ?_) h5)
    refine awp_middle (q := rowsN n (i - 1)) hel hn0 hn (by rw [List.length_set]; exact hl) i1 (by omega) (by omega) (getD_set_self (by omega)) (fun hne => ?_) (fun hne => rowsN_brow hn0 hn _ (by omega)) rfl h6 fun st7 h7 => ?_
    · rw [getD_set_ne (by omega), tabT_getD (by omega), rowAt, if_pos (by omega)]
    · have hrow : rowL (i == 1) (rowsN n (i - 1)) (n - 1) 2 (List.replicate (n + 1) 0) = rowsN n i := by
        obtain ⟨a, rfl⟩ : ∃ a, i = a + 1 := ⟨i - 1, by omega⟩
        rw [rowsN, Nat.add_sub_cancel]
        congr 1
        cases a <;> simp
      rw [hrow] at h7
      have hbr := rowsN_brow hn0 hn i i1
      have hlr := hbr.1
      refine awp_sx kx0_ok hel ((tbR_eq m n s (s + 1) _ i (rowsN n i) _).mpr ?_) h7
      simp only [Int.toNat_natCast, List.length_map, List.length_set, Nat.mul_one]
      refine ⟨⟨?_, by omega, trivial, flat_vi' _⟩, ?_⟩
      · rw [getD_set_self (by omega), hlr]
      · have hnx := tabT_next (n := n) (s := s) i1 g1' (.rs 1 0 (n + 1) (n + 1) none)
        unfold dsR at hnx
        rw [hnx]
        have w5 : IntKind.wrap IntKind.i64 ((i : Int) + 1) = ((i + 1 : Nat) : Int) := by rw [wrap_ok (by omega) (by omega)]; omega
        rw [w5]
        exact ⟨tabT_m1 _ _ _, fun st8 h8 => ⟨i + 1, ⟨by omega, by omega⟩, by omega, h8⟩⟩
  · have g1' : i = s + 1 := by have := of_decide_eq_false g1; omega
    subst g1'
    refine awp_sx kx0_ok hel ((tbU_eq m (s + 1) _ _).mpr ?_) h4
    have hl := tabT_length n s (s + 1)
    obtain ⟨u, hu⟩ := frzD_rs (h := (mm [tabB (tabT n s (s + 1))]).h.hf) 11 (i := 0) (len := s + 1) (cap := none) (cells := tabT n s (s + 1)) (esz := 1) (ao := false) (fx := false) (ty := none) (by rw [mm_hf]; rfl) (tabT_flat _ _ _) (by omega)
    rw [hl] at hu
    exact finL_ret (a := .ds {} (tabT n s (s + 1)) (s + 1)) [.rs 0 0 (s + 1) (s + 1) none] u (by kernel_rfl) hu
end Go.Proofs.YtpiincgiakkljaaGreatDoor
