/-
  replay.Check, replay.Often, fluxionref18.Bad, fluxionref08.Ints, cut as the code says them.
-/
import Derived.Test.YtpiincgiakkljaaGreatDoorS3
set_option linter.unusedSimpArgs false
set_option linter.unusedVariables false
namespace Go.Proofs.YtpiincgiakkljaaGreatDoor
open Go

/-- replay.check as a known call; what it comes to is handed over. -/
noncomputable def kCheck (p : List (Int × Int)) (o : List Int) (a e : Int) : KX := kL 28 fun l => match l with
  | [.ds _ cells len, .int .i64 n, .int .i64 s] => some (.tup [.ds {} (o.map vi) o.length, vi a, vi e], [.p (cells = eA p), .p (len = p.length), .p (1 ≤ n ∧ n ≤ 40), .p (checkV n s p = (o, a, e))])
  | _ => none
theorem kCheck_ok (m : Int) (p : List (Int × Int)) (o : List Int) (a e : Int) : KxOk prog (gl m) (kCheck p o a e) := kL_ok fun l v cs h hc => by
  split at h
  · rename_i hd cells len n s
    cases h
    simp only [List.mem_cons, List.mem_nil_iff, or_false, forall_eq_or_imp, forall_eq, Cd.ok] at hc
    obtain ⟨c1, c2, c3, c4⟩ := hc
    have := check_hasL m n s hd p c3.1 c3.2
    rw [c4] at this
    subst c1 c2
    exact this
  · cases h

noncomputable def kCk (p : List (Int × Int)) (o : List Int) (a e : Int) : KX := orK kAsked (kCheck p o a e)
theorem kCk_ok (m : Int) (p : List (Int × Int)) (o : List Int) (a e : Int) : KxOk prog (gl m) (kCk p o a e) := orK_ok (kAsked_ok m) (kCheck_ok m p o a e)

noncomputable abbrev F13 : Code := bodyF Tryz.f13
noncomputable def ckA (m n s : Int) (hd : SH) (p : List (Int × Int)) (K : AExit → Tr AV → Mem → Prop) (S : Scr) : Prop := sxC prog (gl m) kx0 43 mo (cp [0] F13) (finK 0 K) S (argsTr [dA hd p, vi n, vi s] 0 .e) (mm [])
noncomputable def ckB (m n s : Int) (hd : SH) (p : List (Int × Int)) (K : AExit → Tr AV → Mem → Prop) (S : Scr) : Prop := sxC prog (gl m) kAsked 43 mo (cp [1,0] F13) (finK 0 K) S (chT n s hd p) (mm [])
noncomputable def ckC (m n s : Int) (hd : SH) (p : List (Int × Int)) (o : List Int) (a e : Int) (K : AExit → Tr AV → Mem → Prop) (S : Scr) : Prop := sxC prog (gl m) (kCheck p o a e) 43 mo (cp [1,1,0] F13) (finK 0 K) S (chT n s hd p) (mm [])
noncomputable def ckD (m : Int) (o : List Int) (a e : Int) (K : AExit → Tr AV → Mem → Prop) (S : Scr) : Prop := sxC prog (gl m) kx0 43 mo (cp [1,1,1,0] F13) (finK 0 K) S (few [(10, .ds {} (o.map vi) o.length), (11, vi a), (12, vi e)]) (mm [])
noncomputable def ckE (m : Int) (o : List Int) (a e : Int) (K : AExit → Tr AV → Mem → Prop) (S : Scr) : Prop := sxC prog (gl m) kx0 43 mo (cp [1,1,1,1,0,0] F13) (finK 0 K) S (few [(10, .ds {} (o.map vi) o.length), (11, vi a), (12, vi e), (13, vi 0)]) (mm [])
noncomputable def ckT (i x : Int) (o : List Int) (a e : Int) : Tr AV := few [(11, vi a), (12, vi e), (13, vi x), (30, .ds {} (o.map vi) o.length), (31, vi o.length), (32, vi i)]
noncomputable def ckL (m i x : Int) (o : List Int) (a e : Int) (K : AExit → Tr AV → Mem → Prop) (S : Scr) : Prop := sxC prog (gl m) kx0 43 mo (cp [1,1,1,1,0,1,0,0] F13) (finK 0 K) S (ckT i x o a e) (mm [])
noncomputable def ckF (m x : Int) (a e : Int) (K : AExit → Tr AV → Mem → Prop) (S : Scr) : Prop := sxC prog (gl m) kx0 43 mo (cp [1,1,1,1,1] F13) (finK 0 K) S (few [(11, vi a), (12, vi e), (13, vi x)]) (mm [])
set_option maxRecDepth 100000 in
theorem ckA_eq (m : Int) (n : Int) (s : Int) (hd : SH) (p : List (Int × Int)) (K : AExit → Tr AV → Mem → Prop) : ckA m n s hd p K (Scr.fin [0, 1, 2]) = (
    K AExit.normal (few [(0, AV.ds hd (eA p) (List.length p)), (1, AV.int IntKind.i64 n), (2, AV.int IntKind.i64 s)])
  (mm [])) := by kernel_rfl
set_option maxRecDepth 100000 in
theorem ckB_eq (m : Int) (n : Int) (s : Int) (hd : SH) (p : List (Int × Int)) (K : AExit → Tr AV → Mem → Prop) : ckB m n s hd p K (Scr.sp (Scr.fin [6, 7, 8]) (Scr.fin [0, 1, 2])) = (
    ((askedV n s != 0) = true →
    K AExit.ret (few [(6, AV.int IntKind.i64 0), (7, AV.int IntKind.i64 0), (8, AV.int IntKind.i64 (askedV n s))])
      (mm [])) ∧
  ((askedV n s != 0) = false →
    K AExit.normal (few [(0, AV.ds hd (eA p) (List.length p)), (1, AV.int IntKind.i64 n), (2, AV.int IntKind.i64 s)])
      (mm []))) := by kernel_rfl
set_option maxRecDepth 100000 in
theorem ckC_eq (m : Int) (n : Int) (s : Int) (hd : SH) (p : List (Int × Int)) (o : List Int) (a : Int) (e : Int) (K : AExit → Tr AV → Mem → Prop) : ckC m n s hd p o a e K (Scr.fin [10, 11, 12]) = (
    eA p = eA p ∧
  List.length p = List.length p ∧
    (1 ≤ n ∧ n ≤ 40) ∧
      checkV n s p = (o, a, e) ∧
        K AExit.normal
          (few
            [(10, AV.ds (SH.mk false false none) (List.map vi o) (List.length o)), (11, AV.int IntKind.i64 a),
              (12, AV.int IntKind.i64 e)])
          (mm [])) := by kernel_rfl
set_option maxRecDepth 100000 in
theorem ckD_eq (m : Int) (o : List Int) (a : Int) (e : Int) (K : AExit → Tr AV → Mem → Prop) : ckD m o a e K (Scr.fin [10, 11, 12, 13]) = (
    K AExit.normal
  (few
    [(10, AV.ds (SH.mk false false none) (List.map vi o) (List.length o)), (11, AV.int IntKind.i64 a),
      (12, AV.int IntKind.i64 e), (13, AV.int IntKind.i64 0)])
  (mm [])) := by kernel_rfl
set_option maxRecDepth 100000 in
theorem ckE_eq (m : Int) (o : List Int) (a : Int) (e : Int) (K : AExit → Tr AV → Mem → Prop) : ckE m o a e K (Scr.fin [11, 12, 13, 30, 31, 32]) = (
    K AExit.normal
  (few
    [(11, AV.int IntKind.i64 a), (12, AV.int IntKind.i64 e), (13, AV.int IntKind.i64 0),
      (30, AV.ds (SH.mk false false none) (List.map vi o) (List.length o)),
      (31, AV.int IntKind.i64 (↑(List.length o) : Int)), (32, AV.int IntKind.i64 0)])
  (mm [])) := by kernel_rfl
set_option maxRecDepth 100000 in
theorem ckL_eq (m : Int) (i : Int) (x : Int) (o : List Int) (a : Int) (e : Int) (K : AExit → Tr AV → Mem → Prop) : ckL m i x o a e K (Scr.sp
  (Scr.op [false, false, false]
    (Scr.ld [Ek.is (vi (List.getD o (Int.toNat i) 0))] (Scr.op [false] (Scr.fin [11, 12, 13, 30, 31, 32]))))
  (Scr.fin [11, 12, 13])) = (
    (decide (i < (↑(List.length o) : Int)) = true →
    Int.toNat i * 1 ≤ List.length (List.map vi o) ∧
      0 ≤ i ∧
        i + 1 ≤ (↑(List.length o) : Int) ∧
          1 ≤ List.length (List.drop (Int.toNat i * 1) (List.map vi o)) ∧
            List.getD (List.drop (Int.toNat i * 1) (List.map vi o)) 0 AV.junk = vi (List.getD o (Int.toNat i) 0) ∧
              K AExit.normal
                (few
                  [(11, AV.int IntKind.i64 a), (12, AV.int IntKind.i64 e),
                    (13, AV.int IntKind.i64 (IntKind.wrap IntKind.i64 (x + List.getD o (Int.toNat i) 0))),
                    (30, AV.ds (SH.mk false false none) (List.map vi o) (List.length o)),
                    (31, AV.int IntKind.i64 (↑(List.length o) : Int)),
                    (32, AV.int IntKind.i64 (IntKind.wrap IntKind.i64 (i + 1)))])
                (mm [])) ∧
  (decide (i < (↑(List.length o) : Int)) = false →
    K (AExit.exit 0) (few [(11, AV.int IntKind.i64 a), (12, AV.int IntKind.i64 e), (13, AV.int IntKind.i64 x)]) (mm []))) := by kernel_rfl
set_option maxRecDepth 100000 in
theorem ckF_eq (m : Int) (x : Int) (a : Int) (e : Int) (K : AExit → Tr AV → Mem → Prop) : ckF m x a e K (Scr.fin [6, 7, 8]) = (
    K AExit.ret (few [(6, AV.int IntKind.i64 x), (7, AV.int IntKind.i64 a), (8, AV.int IntKind.i64 e)]) (mm [])) := by kernel_rfl

noncomputable abbrev F14 : Code := bodyF Tryz.f14
noncomputable def ofA (m n s : Int) (hd : SH) (p : List (Int × Int)) (K : AExit → Tr AV → Mem → Prop) (S : Scr) : Prop := sxC prog (gl m) kx0 28 mo (cp [0] F14) (finK 0 K) S (argsTr [dA hd p, vi n, vi s] 0 .e) (mm [])
noncomputable def ofB (m n s : Int) (hd : SH) (p : List (Int × Int)) (K : AExit → Tr AV → Mem → Prop) (S : Scr) : Prop := sxC prog (gl m) kAsked 28 mo (cp [1,0] F14) (finK 0 K) S (chT n s hd p) (mm [])
noncomputable def ofC (m n s : Int) (hd : SH) (p : List (Int × Int)) (o : List Int) (a e : Int) (K : AExit → Tr AV → Mem → Prop) (S : Scr) : Prop := sxC prog (gl m) (kCheck p o a e) 28 mo (cp [1,1] F14) (finK 0 K) S (chT n s hd p) (mm [])
set_option maxRecDepth 100000 in
theorem ofA_eq (m : Int) (n : Int) (s : Int) (hd : SH) (p : List (Int × Int)) (K : AExit → Tr AV → Mem → Prop) : ofA m n s hd p K (Scr.fin [0, 1, 2]) = (
    K AExit.normal (few [(0, AV.ds hd (eA p) (List.length p)), (1, AV.int IntKind.i64 n), (2, AV.int IntKind.i64 s)])
  (mm [])) := by kernel_rfl
set_option maxRecDepth 100000 in
theorem ofB_eq (m : Int) (n : Int) (s : Int) (hd : SH) (p : List (Int × Int)) (K : AExit → Tr AV → Mem → Prop) : ofB m n s hd p K (Scr.sp (Scr.fin [6, 7]) (Scr.fin [0, 1, 2])) = (
    ((askedV n s != 0) = true → K AExit.ret (few [(6, AV.nils), (7, AV.int IntKind.i64 (askedV n s))]) (mm [])) ∧
  ((askedV n s != 0) = false →
    K AExit.normal (few [(0, AV.ds hd (eA p) (List.length p)), (1, AV.int IntKind.i64 n), (2, AV.int IntKind.i64 s)])
      (mm []))) := by kernel_rfl
set_option maxRecDepth 100000 in
theorem ofC_eq (m : Int) (n : Int) (s : Int) (hd : SH) (p : List (Int × Int)) (o : List Int) (a : Int) (e : Int) (K : AExit → Tr AV → Mem → Prop) : ofC m n s hd p o a e K (Scr.fin [6, 7]) = (
    eA p = eA p ∧
  List.length p = List.length p ∧
    (1 ≤ n ∧ n ≤ 40) ∧
      checkV n s p = (o, a, e) ∧
        K AExit.ret
          (few [(6, AV.ds (SH.mk false false none) (List.map vi o) (List.length o)), (7, AV.int IntKind.i64 e)]) (mm [])) := by kernel_rfl

noncomputable abbrev F15 : Code := bodyF Tryz.f15
noncomputable def bdA (m x y : Int) (K : AExit → Tr AV → Mem → Prop) (S : Scr) : Prop := sxC prog (gl m) kx0 19 mo F15 (finK 0 K) S (argsTr [vi x, vi y] 0 .e) (mm [])
set_option maxRecDepth 100000 in
theorem bdA_eq (m : Int) (x : Int) (y : Int) (K : AExit → Tr AV → Mem → Prop) : bdA m x y K (Scr.sp (Scr.tt (Scr.tt (Scr.tt (Scr.tt (Scr.tt (Scr.fin [4]))))))
  (Scr.ff
    (Scr.sp (Scr.tt (Scr.tt (Scr.tt (Scr.fin [4])))) (Scr.ff (Scr.sp (Scr.tt (Scr.fin [4])) (Scr.ff (Scr.fin [4]))))))) = (
    (decide (x < 1) = true → K AExit.ret (few [(4, AV.bool true)]) (mm [])) ∧
  (decide (x < 1) = false →
    (decide (x > 40) = true → K AExit.ret (few [(4, AV.bool true)]) (mm [])) ∧
      (decide (x > 40) = false →
        (decide (y < 1) = true → K AExit.ret (few [(4, AV.bool true)]) (mm [])) ∧
          (decide (y < 1) = false → K AExit.ret (few [(4, AV.bool (decide (y > 8)))]) (mm []))))) := by kernel_rfl

noncomputable abbrev F17 : Code := bodyF Tryz.f17
noncomputable def inA (m : Int) (hd he : SH) (xs ys : List Int) (K : AExit → Tr AV → Mem → Prop) (S : Scr) : Prop := sxC prog (gl m) kx0 26 mo (cp [0] F17) (finK 0 K) S (argsTr [.ds hd (xs.map vi) xs.length, .ds he (ys.map vi) ys.length] 0 .e) (mm [])
noncomputable def inT (hd he : SH) (xs ys : List Int) : Tr AV := few [(0, .ds hd (xs.map vi) xs.length), (1, .ds he (ys.map vi) ys.length)]
noncomputable def inB (m : Int) (hd he : SH) (xs ys : List Int) (K : AExit → Tr AV → Mem → Prop) (S : Scr) : Prop := sxC prog (gl m) kx0 26 mo (cp [1,0] F17) (finK 0 K) S (inT hd he xs ys) (mm [])
noncomputable def inC (m : Int) (hd he : SH) (xs ys : List Int) (K : AExit → Tr AV → Mem → Prop) (S : Scr) : Prop := sxC prog (gl m) kx0 26 mo (cp [1,1,0,0] F17) (finK 0 K) S (inT hd he xs ys) (mm [])
noncomputable def inLT (i : Int) (hd he : SH) (xs ys : List Int) : Tr AV := few [(0, .ds hd (xs.map vi) xs.length), (1, .ds he (ys.map vi) ys.length), (5, vi i)]
noncomputable def inL (m i : Int) (hd he : SH) (xs ys : List Int) (K : AExit → Tr AV → Mem → Prop) (S : Scr) : Prop := sxC prog (gl m) kx0 26 mo (cp [1,1,0,1,0,0] F17) (finK 0 K) S (inLT i hd he xs ys) (mm [])
noncomputable def inF (m : Int) (K : AExit → Tr AV → Mem → Prop) (S : Scr) : Prop := sxC prog (gl m) kx0 26 mo (cp [1,1,1] F17) (finK 0 K) S (few []) (mm [])
set_option maxRecDepth 100000 in
theorem inA_eq (m : Int) (hd : SH) (he : SH) (xs : List Int) (ys : List Int) (K : AExit → Tr AV → Mem → Prop) : inA m hd he xs ys K (Scr.fin [0, 1]) = (
    K AExit.normal (few [(0, AV.ds hd (List.map vi xs) (List.length xs)), (1, AV.ds he (List.map vi ys) (List.length ys))])
  (mm [])) := by kernel_rfl
set_option maxRecDepth 100000 in
theorem inB_eq (m : Int) (hd : SH) (he : SH) (xs : List Int) (ys : List Int) (K : AExit → Tr AV → Mem → Prop) : inB m hd he xs ys K (Scr.sp (Scr.fin [4]) (Scr.fin [0, 1])) = (
    (((↑(List.length xs) : Int) != (↑(List.length ys) : Int)) = true → K AExit.ret (few [(4, AV.bool false)]) (mm [])) ∧
  (((↑(List.length xs) : Int) != (↑(List.length ys) : Int)) = false →
    K AExit.normal
      (few [(0, AV.ds hd (List.map vi xs) (List.length xs)), (1, AV.ds he (List.map vi ys) (List.length ys))]) (mm []))) := by kernel_rfl
set_option maxRecDepth 100000 in
theorem inC_eq (m : Int) (hd : SH) (he : SH) (xs : List Int) (ys : List Int) (K : AExit → Tr AV → Mem → Prop) : inC m hd he xs ys K (Scr.fin [0, 1, 5]) = (
    K AExit.normal
  (few
    [(0, AV.ds hd (List.map vi xs) (List.length xs)), (1, AV.ds he (List.map vi ys) (List.length ys)),
      (5, AV.int IntKind.i64 0)])
  (mm [])) := by kernel_rfl
set_option maxRecDepth 100000 in
theorem inL_eq (m : Int) (i : Int) (hd : SH) (he : SH) (xs : List Int) (ys : List Int) (K : AExit → Tr AV → Mem → Prop) : inL m i hd he xs ys K (Scr.sp
  (Scr.op [false, false, false]
    (Scr.ld [Ek.is (vi (List.getD xs (Int.toNat i) 0))]
      (Scr.op [false]
        (Scr.op [false, false, false]
          (Scr.ld [Ek.is (vi (List.getD ys (Int.toNat i) 0))]
            (Scr.op [false] (Scr.sp (Scr.fin [4]) (Scr.fin [0, 1, 5]))))))))
  (Scr.fin [])) = (
    (decide (i < (↑(List.length xs) : Int)) = true →
    Int.toNat i * 1 ≤ List.length (List.map vi xs) ∧
      0 ≤ i ∧
        i + 1 ≤ (↑(List.length xs) : Int) ∧
          1 ≤ List.length (List.drop (Int.toNat i * 1) (List.map vi xs)) ∧
            List.getD (List.drop (Int.toNat i * 1) (List.map vi xs)) 0 AV.junk = vi (List.getD xs (Int.toNat i) 0) ∧
              Int.toNat i * 1 ≤ List.length (List.map vi ys) ∧
                0 ≤ i ∧
                  i + 1 ≤ (↑(List.length ys) : Int) ∧
                    1 ≤ List.length (List.drop (Int.toNat i * 1) (List.map vi ys)) ∧
                      List.getD (List.drop (Int.toNat i * 1) (List.map vi ys)) 0 AV.junk =
                          vi (List.getD ys (Int.toNat i) 0) ∧
                        ((List.getD xs (Int.toNat i) 0 != List.getD ys (Int.toNat i) 0) = true →
                            K AExit.ret (few [(4, AV.bool false)]) (mm [])) ∧
                          ((List.getD xs (Int.toNat i) 0 != List.getD ys (Int.toNat i) 0) = false →
                            K AExit.normal
                              (few
                                [(0, AV.ds hd (List.map vi xs) (List.length xs)),
                                  (1, AV.ds he (List.map vi ys) (List.length ys)),
                                  (5, AV.int IntKind.i64 (IntKind.wrap IntKind.i64 (i + 1)))])
                              (mm []))) ∧
  (decide (i < (↑(List.length xs) : Int)) = false → K (AExit.exit 0) (few []) (mm []))) := by kernel_rfl
set_option maxRecDepth 100000 in
theorem inF_eq (m : Int) (K : AExit → Tr AV → Mem → Prop) : inF m K (Scr.fin [4]) = (
    K AExit.ret (few [(4, AV.bool true)]) (mm [])) := by kernel_rfl

noncomputable abbrev F12 : Code := bodyF Tryz.f12
noncomputable def cuA (m : Int) (hd : SH) (p : List (Int × Int)) (K : AExit → Tr AV → Mem → Prop) (S : Scr) : Prop := sxC prog (gl m) kx0 10 mo F12 (finK 0 K) S (argsTr [dA hd p] 0 .e) (mm [])
set_option maxRecDepth 100000 in
theorem cuA_eq (m : Int) (hd : SH) (p : List (Int × Int)) (K : AExit → Tr AV → Mem → Prop) : cuA m hd p K (Scr.op [true, false, false]
  (Scr.alt 2 (Scr.op [true, true, true, true, false, true, false, false, false] (Scr.fin [2])))) = (
    (0 ≤ if 4001 < (↑(List.length p) : Int) then 4001 else (↑(List.length p) : Int)) ∧
  (if 4001 < (↑(List.length p) : Int) then 4001 else (↑(List.length p) : Int)) ≤ (↑(List.length p) : Int) ∧
    AV.m0L
          (List.take (Int.toNat ((if 4001 < (↑(List.length p) : Int) then 4001 else (↑(List.length p) : Int)) - 0) * 2)
            (List.drop 0 (eA p))) =
        true ∧
      List.length
            (List.take
              (Int.toNat ((if 4001 < (↑(List.length p) : Int) then 4001 else (↑(List.length p) : Int)) - 0) * 2)
              (List.drop 0 (eA p))) =
          Int.toNat ((if 4001 < (↑(List.length p) : Int) then 4001 else (↑(List.length p) : Int)) - 0) * 2 ∧
        (2 *
                  (0 +
                    (↑(Int.toNat ((if 4001 < (↑(List.length p) : Int) then 4001 else (↑(List.length p) : Int)) - 0)) :
                      Int)) +
                256) *
              16 ≤
            281474976710656 ∧
          0 + (↑(Int.toNat ((if 4001 < (↑(List.length p) : Int) then 4001 else (↑(List.length p) : Int)) - 0)) : Int) ≤
              281474976710656 ∧
            K AExit.ret
              (few
                [(2,
                    AV.ds (SH.mk false true none)
                      ([] ++
                        List.take
                          (Int.toNat
                              ((if 4001 < (↑(List.length p) : Int) then 4001 else (↑(List.length p) : Int)) - 0) *
                            2)
                          (List.drop 0 (eA p)))
                      (0 +
                        Int.toNat ((if 4001 < (↑(List.length p) : Int) then 4001 else (↑(List.length p) : Int)) - 0)))])
              (mm [])) := by kernel_rfl
end Go.Proofs.YtpiincgiakkljaaGreatDoor
/-
  replay.Check, replay.Often, fluxionref18.Bad, fluxionref08.Ints, cut: their contracts.
-/
namespace Go.Proofs.YtpiincgiakkljaaGreatDoor
open Go

def sumZ : List Int → Int
  | [] => 0
  | x :: l => x + sumZ l

theorem sumZ_append (a b : List Int) : sumZ (a ++ b) = sumZ a + sumZ b := by
  induction a with
  | nil => simp [sumZ]
  | cons x a ih => simp only [List.cons_append, sumZ, ih]; omega

theorem sumZ_take {o : List Int} {i : Nat} (h : i < o.length) : sumZ (o.take (i + 1)) = sumZ (o.take i) + o.getD i 0 := by
  rw [List.take_add_one, sumZ_append, List.getElem?_eq_getElem h, List.getD_eq_getElem?_getD, List.getElem?_eq_getElem h]
  simp [sumZ]

theorem sumZ_bound {B : Int} : ∀ {o : List Int}, (∀ x ∈ o, 0 ≤ x ∧ x ≤ B) → 0 ≤ sumZ o ∧ sumZ o ≤ o.length * B
  | [], _ => by simp [sumZ]
  | x :: o, h => by
    have h1 := h x List.mem_cons_self
    have h2 := sumZ_bound (B := B) fun y hy => h y (List.mem_cons_of_mem _ hy)
    simp only [sumZ, List.length_cons]
    have : ((o.length + 1 : Nat) : Int) * B = o.length * B + B := by rw [Int.natCast_add, Int.add_mul]; simp
    omega

def ChkV (n s : Int) (p : List (Int × Int)) : Int × Int × Int := if badP n s then (0, 0, 2) else (sumZ (checkV n s p).1, (checkV n s p).2.1, (checkV n s p).2.2)
def OftV (n s : Int) (p : List (Int × Int)) : List Int × Int := if badP n s then ([], 2) else ((checkV n s p).1, (checkV n s p).2.2)

theorem checkL_bound {n s : Int} {len : Nat} (hl : len ≤ 4000) : ∀ {l : List (Int × Int)} {i : Nat} {h : Hs} {o : List Int}, i + l.length = len → ChInv n i h o → (∀ x ∈ (checkL n s len l i h o).1, 0 ≤ x ∧ x ≤ 4000) ∧ ((checkL n s len l i h o).1.length : Int) ≤ max n 0
  | [], i, h, o, hi, inv => by
    rw [checkL]
    split
    · exact ⟨by simp, by simp; omega⟩
    · refine ⟨fun x hx => ?_, ?_⟩
      · have := inv.oe x hx
        simp at hi
        omega
      · have := inv.ol
        simp only
        omega
  | a :: l, i, h, o, hi, inv => by
    rw [checkL]
    rcases hm : mayV n s h a.1 a.2 with ⟨b, h2⟩
    cases b with
    | false => exact ⟨by simp, by simp; omega⟩
    | true => exact checkL_bound hl (by simp at hi; omega) (may_inv inv hm).1

theorem checkV_bound {n s : Int} {p : List (Int × Int)} (hn : 1 ≤ n) (hn2 : n ≤ 40) : (∀ x ∈ (checkV n s p).1, 0 ≤ x ∧ x ≤ 4000) ∧ (checkV n s p).1.length ≤ 40 := by
  unfold checkV
  split
  · exact ⟨by simp, by simp⟩
  · obtain ⟨h1, h2⟩ := checkL_bound (n := n) (s := s) (len := p.length) (by omega) (l := p) (i := 0) (h := ⟨0, n, []⟩) (o := List.replicate n.toNat 0) (by simp) ⟨by simp, by simp; omega, by simp; omega, by simp, by simp, by simp, by simp; omega, fun x hx => by
      have := List.eq_of_mem_replicate hx
      omega⟩
    exact ⟨h1, by omega⟩

theorem asked_ne {n s : Int} : (askedV n s != 0) = true ↔ badP n s := by
  unfold askedV
  split <;> simp_all
theorem asked_eq {n s : Int} : (askedV n s != 0) = false ↔ ¬ badP n s := by
  unfold askedV
  split <;> simp_all
theorem asked_2 {n s : Int} (h : badP n s) : askedV n s = 2 := if_pos h

theorem F13_split : F13 = .seq (cp [0] F13) (.seq (cp [1,0] F13) (.seq (cp [1,1,0] F13) (.seq (cp [1,1,1,0] F13) (.seq (.seq (cp [1,1,1,1,0,0] F13) (.block 0 (.loop (cp [1,1,1,1,0,1,0,0] F13)))) (cp [1,1,1,1,1] F13))))) := by kernel_rfl

noncomputable def tri (r : Int × Int × Int) : AV := .tup [vi r.1, vi r.2.1, vi r.2.2]
theorem fin13 (x y z : Int) : Lf (FinL prog Tryz.f13 (tri (x, y, z))) .ret (few [(6, AV.int IntKind.i64 x), (7, AV.int IntKind.i64 y), (8, AV.int IntKind.i64 z)]) (mm []) := finL_ret [vi x, vi y, vi z] [] (by kernel_rfl) (by kernel_rfl)

set_option maxRecDepth 100000 in
theorem Check_hasL (m n s : Int) (hd : SH) (p : List (Int × Int)) : HasL prog (gl m) 13 [dA hd p, vi n, vi s] (tri (ChkV n s p)) := by
  refine hasL_sx Tryz.func13 (code := F13) (by kernel_rfl) (of_decide_eq_true (by kernel_rfl)) fun c st hel hs => ?_
  rw [F13_split]
  refine awp_seq (awp_sx kx0_ok hel ((ckA_eq m n s hd p _).mpr fun st1 h1 => ?_) hs)
  refine awp_seq (awp_sx (kAsked_ok m) hel ((ckB_eq m n s hd p _).mpr ⟨fun hb => ?_, fun hb st2 h2 => ?_⟩) h1)
  · have hb' := asked_ne.1 hb
    rw [ChkV, if_pos hb', asked_2 hb']
    exact fin13 0 0 2
  have hb' := asked_eq.1 hb
  have hR : ChkV n s p = (sumZ (checkV n s p).1, (checkV n s p).2.1, (checkV n s p).2.2) := by rw [ChkV, if_neg hb']
  have hn : 1 ≤ n ∧ n ≤ 40 := by unfold badP at hb'; omega
  have hB := checkV_bound (s := s) (p := p) hn.1 hn.2
  rcases hc : checkV n s p with ⟨o, a, e⟩
  rw [hc] at hR hB
  simp only at hR hB
  refine awp_seq (awp_sx (kCheck_ok m p o a e) hel ((ckC_eq m n s hd p o a e _).mpr ⟨rfl, rfl, hn, hc, fun st3 h3 => ?_⟩) h2)
  refine awp_seq (awp_sx kx0_ok hel ((ckD_eq m o a e _).mpr fun st4 h4 => ?_) h3)
  refine awp_seq (awp_seq (awp_sx kx0_ok hel ((ckE_eq m o a e _).mpr fun st5 h5 => ?_) h4))
  refine awp_block (awp_loop_sx (α := Nat) (fun i => i ≤ o.length) (fun i => ckT i (sumZ (o.take i)) o a e) (fun _ => mm []) (fun i => o.length - i) (fun i st hI hst => ?_) (a := 0) (by simp) h5)
  refine awp_sx kx0_ok hel ((ckL_eq m i _ o a e _).mpr ⟨fun hlt => ?_, fun hge st6 h6 => ?_⟩) hst
  · have hi : i < o.length := by have := of_decide_eq_true hlt; omega
    have hs1 := sumZ_bound (B := 4000) (o := o.take (i + 1)) fun x hx => hB.1 x (List.mem_of_mem_take hx)
    have hl1 : (o.take (i + 1)).length ≤ 40 := by simp; omega
    have hw : IntKind.wrap IntKind.i64 (sumZ (o.take i) + o.getD i 0) = sumZ (o.take (i + 1)) := by
      rw [← sumZ_take hi]
      exact wrap_ok hs1.1 (by omega)
    have hw2 : IntKind.wrap IntKind.i64 ((i : Int) + 1) = ((i + 1 : Nat) : Int) := by rw [wrap_ok (by omega) (by omega)]; omega
    simp only [Int.toNat_natCast, Nat.mul_one, List.length_map, hw, hw2]
    refine ⟨by omega, by omega, by omega, by simp; omega, getD_map_vi hi, fun st6 h6 => ⟨i + 1, by omega, by omega, h6⟩⟩
  · have hi : i = o.length := by have := of_decide_eq_false hge; omega
    rw [hi, List.take_length] at h6
    refine awp_sx kx0_ok hel ((ckF_eq m _ a e _).mpr ?_) h6
    rw [hR]
    exact fin13 _ _ _

theorem F14_split : F14 = .seq (cp [0] F14) (.seq (cp [1,0] F14) (cp [1,1] F14)) := by kernel_rfl
noncomputable def oft (r : List Int × Int) : AV := .tup [.ds {} (r.1.map vi) r.1.length, vi r.2]

set_option maxRecDepth 100000 in
theorem Often_hasL (m n s : Int) (hd : SH) (p : List (Int × Int)) : HasL prog (gl m) 14 [dA hd p, vi n, vi s] (oft (OftV n s p)) := by
  refine hasL_sx Tryz.func14 (code := F14) (by kernel_rfl) (of_decide_eq_true (by kernel_rfl)) fun c st hel hs => ?_
  rw [F14_split]
  refine awp_seq (awp_sx kx0_ok hel ((ofA_eq m n s hd p _).mpr fun st1 h1 => ?_) hs)
  refine awp_seq (awp_sx (kAsked_ok m) hel ((ofB_eq m n s hd p _).mpr ⟨fun hb => ?_, fun hb st2 h2 => ?_⟩) h1)
  · have hb' := asked_ne.1 hb
    rw [OftV, if_pos hb', asked_2 hb']
    exact finL_le (a2 := .tup [.nils, vi 2]) (AVle.tup (.cons AVle.nils (.cons (AVle.refl _) .nil))) [.nils, vi 2] [] (by kernel_rfl) (by rfl)
  have hb' := asked_eq.1 hb
  have hR : OftV n s p = ((checkV n s p).1, (checkV n s p).2.2) := by rw [OftV, if_neg hb']
  have hn : 1 ≤ n ∧ n ≤ 40 := by unfold badP at hb'; omega
  rcases hc : checkV n s p with ⟨o, a, e⟩
  rw [hc] at hR
  refine awp_sx (kCheck_ok m p o a e) hel ((ofC_eq m n s hd p o a e _).mpr ⟨rfl, rfl, hn, hc, ?_⟩) h2
  rw [hR]
  exact finL_ret (a := oft (o, e)) [.ds {} (o.map vi) o.length, vi e] [] (by kernel_rfl) (by kernel_rfl)

theorem Bad_hasL (m x y : Int) : HasL prog (gl m) 15 [vi x, vi y] (.bool (decide (badP x y))) := by
  refine hasL_sx Tryz.func15 (code := F15) (by kernel_rfl) (of_decide_eq_true (by kernel_rfl)) fun c st hel hs => awp_sx kx0_ok hel ((bdA_eq m x y _).mpr ?_) hs
  have fin : ∀ b : Bool, (b = true ↔ badP x y) → Lf (FinL prog Tryz.f15 (.bool (decide (badP x y)))) .ret (few [(4, AV.bool b)]) (mm []) := fun b hb => by
    have : decide (badP x y) = b := by
      cases b with
      | false => exact decide_eq_false (fun h => by have := hb.2 h; cases this)
      | true => exact decide_eq_true (hb.1 rfl)
    rw [this]
    exact finL_ret [.bool b] [] (by kernel_rfl) (by kernel_rfl)
  simp only [decide_eq_true_eq, decide_eq_false_iff_not]
  unfold badP at fin ⊢
  exact ⟨fun h => fin _ (by simp; omega), fun h => ⟨fun h1 => fin _ (by simp; omega), fun h1 => ⟨fun h2 => fin _ (by simp; omega), fun h2 => fin _ (by simp; omega)⟩⟩⟩

theorem F17_split : F17 = .seq (cp [0] F17) (.seq (cp [1,0] F17) (.seq (.seq (cp [1,1,0,0] F17) (.block 0 (.loop (cp [1,1,0,1,0,0] F17)))) (cp [1,1,1] F17))) := by kernel_rfl

theorem list_ext_getD : ∀ {xs ys : List Int}, xs.length = ys.length → (∀ j, j < xs.length → xs.getD j 0 = ys.getD j 0) → xs = ys := by
  intro xs ys hl h
  apply List.ext_getElem hl
  intro i h1 h2
  have := h i h1
  simpa [List.getD_eq_getElem?_getD, h1, h2] using this

set_option maxRecDepth 100000 in
theorem Ints_hasL (m : Int) (hd he : SH) (xs ys : List Int) (hx : xs.length ≤ 281474976710655) : HasL prog (gl m) 17 [.ds hd (xs.map vi) xs.length, .ds he (ys.map vi) ys.length] (.bool (decide (xs = ys))) := by
  refine hasL_sx Tryz.func17 (code := F17) (by kernel_rfl) (of_decide_eq_true (by kernel_rfl)) fun c st hel hs => ?_
  have fin : ∀ b : Bool, (b = true ↔ xs = ys) → Lf (FinL prog Tryz.f17 (.bool (decide (xs = ys)))) .ret (few [(4, AV.bool b)]) (mm []) := fun b hb => by
    have : decide (xs = ys) = b := by
      cases b with
      | false => exact decide_eq_false (fun h => by have := hb.2 h; cases this)
      | true => exact decide_eq_true (hb.1 rfl)
    rw [this]
    exact finL_ret [.bool b] [] (by kernel_rfl) (by kernel_rfl)
  rw [F17_split]
  refine awp_seq (awp_sx kx0_ok hel ((inA_eq m hd he xs ys _).mpr fun st1 h1 => ?_) hs)
  refine awp_seq (awp_sx kx0_ok hel ((inB_eq m hd he xs ys _).mpr ⟨fun hb => ?_, fun hb st2 h2 => ?_⟩) h1)
  · have : (xs.length : Int) ≠ ys.length := by simpa using hb
    exact fin false ⟨fun h => (by cases h), fun h => (by subst h; omega)⟩
  have hl : xs.length = ys.length := by
    have : (xs.length : Int) = ys.length := by simpa using hb
    omega
  refine awp_seq (awp_seq (awp_sx kx0_ok hel ((inC_eq m hd he xs ys _).mpr fun st3 h3 => ?_) h2))
  refine awp_block (awp_loop_sx (α := Nat) (fun i => i ≤ xs.length ∧ ∀ j, j < i → xs.getD j 0 = ys.getD j 0) (fun i => inLT i hd he xs ys) (fun _ => mm []) (fun i => xs.length - i) (fun i st hI hst => ?_) (a := 0) ⟨by omega, fun j h => by omega⟩ h3)
  refine awp_sx kx0_ok hel ((inL_eq m i hd he xs ys _).mpr ⟨fun hlt => ?_, fun hge st6 h6 => ?_⟩) hst
  · have hi : i < xs.length := by have := of_decide_eq_true hlt; omega
    have hw2 : IntKind.wrap IntKind.i64 ((i : Int) + 1) = ((i + 1 : Nat) : Int) := by rw [wrap_ok (by omega) (by omega)]; omega
    simp only [Int.toNat_natCast, Nat.mul_one, List.length_map, hw2]
    refine ⟨by omega, by omega, by omega, by simp; omega, getD_map_vi hi, by omega, by omega, by omega, by simp; omega, getD_map_vi (by omega), fun hne => ?_, fun heq st6 h6 => ⟨i + 1, ⟨by omega, fun j hj => ?_⟩, by omega, h6⟩⟩
    · have : xs.getD i 0 ≠ ys.getD i 0 := by simpa only [bne_iff_ne] using hne
      exact fin false ⟨fun h => (by cases h), fun h => (by subst h; exact absurd rfl this)⟩
    · have hq : xs.getD i 0 = ys.getD i 0 := by simpa only [bne_eq_false_iff_eq] using heq
      by_cases hji : j = i
      · subst hji; exact hq
      · exact hI.2 j (by omega)
  · have hi : i = xs.length := by have := of_decide_eq_false hge; omega
    refine awp_sx kx0_ok hel ((inF_eq m _).mpr ?_) h6
    exact fin true ⟨fun _ => list_ext_getD hl fun j hj => hI.2 j (by omega), fun _ => rfl⟩

theorem AVle.dsn (c : List AV) (k : Nat) : AVle (.ds {} c k) (.ds { nn := true } c k) := fun _ _ _ _ _ _ h => by
  cases h with
  | dsn h1 h2 => cases h1
  | ds h1 h2 h3 h4 => exact .ds (fun e => by cases e) (by simp) h3 h4

theorem eA_take : ∀ (p : List (Int × Int)) (i : Nat), (eA p).take (i * 2) = eA (p.take i)
  | p, 0 => by simp [eA]
  | [], i + 1 => by simp [eA]
  | a :: p, i + 1 => by
    show ([vi a.1, vi a.2] ++ eA p).take ((i + 1) * 2) = _
    rw [show (i + 1) * 2 = i * 2 + 2 by omega]
    exact congrArg (fun l => vi a.1 :: vi a.2 :: l) (eA_take p i)

theorem m0L_eA : ∀ (p : List (Int × Int)), AV.m0L (eA p) = true
  | [] => rfl
  | _ :: p => m0L_eA p

set_option maxRecDepth 100000 in
theorem cut_hasL (m : Int) (hd : SH) (p : List (Int × Int)) : HasL prog (gl m) 12 [dA hd p] (dA {} (p.take 4001)) := by
  refine hasL_sx Tryz.func12 (code := F12) (by kernel_rfl) (of_decide_eq_true (by kernel_rfl)) fun c st hel hs => awp_sx kx0_ok hel ((cuA_eq m hd p _).mpr ?_) hs
  have hq : ∃ q : Nat, (if 4001 < (p.length : Int) then (4001 : Int) else (p.length : Int)) = q ∧ q ≤ 4001 ∧ q ≤ p.length ∧ p.take 4001 = p.take q := by
    by_cases h : 4001 < p.length
    · exact ⟨4001, by rw [if_pos (by omega)]; rfl, by omega, by omega, rfl⟩
    · refine ⟨p.length, by rw [if_neg (by omega)], by omega, by omega, ?_⟩
      rw [List.take_length, List.take_of_length_le (by omega)]
  obtain ⟨q, e1, e2, e3, e4⟩ := hq
  rw [e1, e4]
  have e5 : ((q : Int) - 0).toNat = q := by omega
  simp only [e5, List.drop_zero, eA_take, m0L_eA, true_and, Nat.zero_add, List.nil_append]
  have e6 : (p.take q).length = q := by simp; omega
  refine ⟨by omega, by omega, by rw [eA_length, e6], by omega, by omega, ?_⟩
  refine finL_le (a2 := .ds { nn := true } (eA (p.take q)) q) ?_ [.ds { nn := true } (eA (p.take q)) q] [] (by kernel_rfl) (by kernel_rfl)
  unfold dA
  rw [e6]
  exact AVle.dsn _ _
end Go.Proofs.YtpiincgiakkljaaGreatDoor
