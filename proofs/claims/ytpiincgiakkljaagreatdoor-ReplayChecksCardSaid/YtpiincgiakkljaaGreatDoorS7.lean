/-
  ReplayChecks as the code says it.
-/
import Derived.Test.YtpiincgiakkljaaGreatDoorS6
set_option linter.unusedSimpArgs false
set_option linter.unusedVariables false
namespace Go.Proofs.YtpiincgiakkljaaGreatDoor
open Go

noncomputable def kCut (p : List (Int × Int)) : KX := kL 12 fun l => match l with
  | [.ds _ cells len] => some (dA {} (p.take 4001), [.p (cells = eA p), .p (len = p.length)])
  | _ => none
theorem kCut_ok (m : Int) (p : List (Int × Int)) : KxOk prog (gl m) (kCut p) := kL_ok fun l v cs h hc => by
  split at h
  · rename_i hd cells len
    cases h
    simp only [List.mem_cons, List.mem_nil_iff, or_false, forall_eq_or_imp, forall_eq, Cd.ok] at hc
    obtain ⟨c1, c2⟩ := hc
    subst c1 c2
    exact cut_hasL m hd p
  · cases h

noncomputable def kChk (p : List (Int × Int)) (x a e : Int) : KX := kL 13 fun l => match l with
  | [.ds _ cells len, .int .i64 n, .int .i64 s] => some (.tup [vi x, vi a, vi e], [.p (cells = eA p), .p (len = p.length), .p (ChkV n s p = (x, a, e))])
  | _ => none
theorem kChk_ok (m : Int) (p : List (Int × Int)) (x a e : Int) : KxOk prog (gl m) (kChk p x a e) := kL_ok fun l v cs h hc => by
  split at h
  · rename_i hd cells len n s
    cases h
    simp only [List.mem_cons, List.mem_nil_iff, or_false, forall_eq_or_imp, forall_eq, Cd.ok] at hc
    obtain ⟨c1, c2, c4⟩ := hc
    have := Check_hasL m n s hd p
    rw [c4] at this
    subst c1 c2
    exact this
  · cases h

noncomputable def kOft (p : List (Int × Int)) (o : List Int) (e : Int) : KX := kL 14 fun l => match l with
  | [.ds _ cells len, .int .i64 n, .int .i64 s] => some (.tup [.ds {} (o.map vi) o.length, vi e], [.p (cells = eA p), .p (len = p.length), .p (OftV n s p = (o, e))])
  | _ => none
theorem kOft_ok (m : Int) (p : List (Int × Int)) (o : List Int) (e : Int) : KxOk prog (gl m) (kOft p o e) := kL_ok fun l v cs h hc => by
  split at h
  · rename_i hd cells len n s
    cases h
    simp only [List.mem_cons, List.mem_nil_iff, or_false, forall_eq_or_imp, forall_eq, Cd.ok] at hc
    obtain ⟨c1, c2, c4⟩ := hc
    have := Often_hasL m n s hd p
    rw [c4] at this
    subst c1 c2
    exact this
  · cases h

noncomputable def kBad (b : Bool) : KX := kL 15 fun l => match l with
  | [.int .i64 n, .int .i64 s] => some (.bool b, [.p (decide (badP n s) = b)])
  | _ => none
theorem kBad_ok (m : Int) (b : Bool) : KxOk prog (gl m) (kBad b) := kL_ok fun l v cs h hc => by
  split at h
  · rename_i n s
    cases h
    simp only [List.mem_cons, List.mem_nil_iff, or_false, forall_eq_or_imp, forall_eq, Cd.ok] at hc
    have := Bad_hasL m n s
    rw [hc] at this
    exact this
  · cases h

noncomputable def kRef (p : List (Int × Int)) (o : List Int) (a e : Int) : KX := kL 16 fun l => match l with
  | [.ds _ cells len, .int .i64 n, .int .i64 s] => some (.agg [vi (sumZ o), vi a, vi e, .ds {} (o.map vi) o.length], [.p (cells = eA p), .p (len = p.length), .p (1 ≤ n ∧ n ≤ 40 ∧ 0 ≤ s), .p (checkV n s p = (o, a, e))])
  | _ => none
theorem kRef_ok (m : Int) (p : List (Int × Int)) (o : List Int) (a e : Int) : KxOk prog (gl m) (kRef p o a e) := kL_ok fun l v cs h hc => by
  split at h
  · rename_i hd cells len n s
    cases h
    simp only [List.mem_cons, List.mem_nil_iff, or_false, forall_eq_or_imp, forall_eq, Cd.ok] at hc
    obtain ⟨c1, c2, c3, c4⟩ := hc
    have := refCheck_hasL m n s hd p c3.1 c3.2.1 c3.2.2
    rw [c4] at this
    subst c1 c2
    exact this
  · cases h

noncomputable def kInts (xs ys : List Int) : KX := kL 17 fun l => match l with
  | [.ds _ c1 l1, .ds _ c2 l2] => some (.bool (decide (xs = ys)), [.p (c1 = xs.map vi), .p (l1 = xs.length), .p (c2 = ys.map vi), .p (l2 = ys.length), .p (xs.length ≤ 281474976710655)])
  | _ => none
theorem kInts_ok (m : Int) (xs ys : List Int) : KxOk prog (gl m) (kInts xs ys) := kL_ok fun l v cs h hc => by
  split at h
  · rename_i hd he c1 l1 c2 l2
    cases h
    simp only [List.mem_cons, List.mem_nil_iff, or_false, forall_eq_or_imp, forall_eq, Cd.ok] at hc
    obtain ⟨d1, d2, d3, d4, d5⟩ := hc
    subst d1 d2 d3 d4
    exact Ints_hasL m _ _ xs ys d5
  · cases h
noncomputable def kInAl (xs ys : List Int) : KX := orK (kInts xs ys) kAlive
theorem kInAl_ok (m : Int) (xs ys : List Int) : KxOk prog (gl m) (kInAl xs ys) := orK_ok (kInts_ok m xs ys) (kAlive_ok m)

noncomputable abbrev F5 : Code := bodyF Tryz.f5
noncomputable def lcA (m n s : Int) (hd : SH) (p : List (Int × Int)) (K : AExit → Tr AV → Mem → Prop) (S : Scr) : Prop := sxC prog (gl m) kx0 98 mo (cp [0] F5) (finK 0 K) S (argsTr [dA hd p, vi n, vi s] 0 .e) (mm [])
noncomputable def lcB (m n s : Int) (hd : SH) (p : List (Int × Int)) (K : AExit → Tr AV → Mem → Prop) (S : Scr) : Prop := sxC prog (gl m) (kCut p) 98 mo (cp [1,0] F5) (finK 0 K) S (few [(0, dA hd p), (1, vi n), (2, vi s)]) (mm [])
noncomputable def lcT (n s : Int) (p : List (Int × Int)) (l : List (Nat × AV)) : Tr AV := few ([(1, vi n), (2, vi s), (7, dA {} p)] ++ l)
noncomputable def lcC (m n s : Int) (p : List (Int × Int)) (x a e : Int) (K : AExit → Tr AV → Mem → Prop) (S : Scr) : Prop := sxC prog (gl m) (kChk p x a e) 98 mo (cp [1,1,0] F5) (finK 0 K) S (lcT n s p []) (mm [])
noncomputable def lcD (m n s : Int) (p : List (Int × Int)) (x a e : Int) (o : List Int) (e2 : Int) (K : AExit → Tr AV → Mem → Prop) (S : Scr) : Prop := sxC prog (gl m) (kOft p o e2) 98 mo (cp [1,1,1,0] F5) (finK 0 K) S (lcT n s p [(8, vi x), (9, vi a), (10, vi e)]) (mm [])
noncomputable def lcU (n s : Int) (p : List (Int × Int)) (x a e : Int) (o : List Int) (e2 : Int) (l : List (Nat × AV)) : Tr AV := few ([(1, vi n), (2, vi s), (7, dA {} p), (8, vi x), (9, vi a), (10, vi e), (11, .ds {} (o.map vi) o.length), (12, vi e2)] ++ l)
noncomputable def lcE (m n s : Int) (p : List (Int × Int)) (x a e : Int) (o : List Int) (e2 : Int) (b : Bool) (K : AExit → Tr AV → Mem → Prop) (S : Scr) : Prop := sxC prog (gl m) (kBad b) 98 mo (cp [1,1,1,1,0,0] F5) (finK 0 K) S (lcU n s p x a e o e2 []) (mm [])
noncomputable def lcF (m n s : Int) (p : List (Int × Int)) (x a e : Int) (o : List Int) (e2 : Int) (b : Bool) (K : AExit → Tr AV → Mem → Prop) (S : Scr) : Prop := sxC prog (gl m) kAlive 98 mo (cp [1,1,1,1,0,1] F5) (finK 0 K) S (lcU n s p x a e o e2 [(33, .bool b)]) (mm [])
noncomputable def lcG (m n s : Int) (p : List (Int × Int)) (x a e : Int) (o : List Int) (e2 : Int) (r0 r1 r2 : Int) (ro : List Int) (K : AExit → Tr AV → Mem → Prop) (S : Scr) : Prop := sxC prog (gl m) (kRef p ro r1 r2) 98 mo (cp [1,1,1,1,1,0] F5) (finK 0 K) S (lcU n s p x a e o e2 []) (mm [])
noncomputable def toldD (r0 r1 r2 : Int) (ro : List Int) : Slot := .blk ⟨[vi r0, vi r1, vi r2, .ds {} (ro.map vi) ro.length], 4, false, false, some 39⟩
noncomputable def lcH (m n s : Int) (p : List (Int × Int)) (x a e : Int) (o : List Int) (e2 : Int) (r0 r1 r2 : Int) (ro : List Int) (K : AExit → Tr AV → Mem → Prop) (S : Scr) : Prop := sxC prog (gl m) kAlive 98 mo (cp [1,1,1,1,1,1,0] F5) (finK 0 K) S (few [(8, vi x), (9, vi a), (10, vi e), (11, .ds {} (o.map vi) o.length), (12, vi e2), (13, .ra 0 0 4)]) (mm [toldD r0 r1 r2 ro])
noncomputable def lcI (m : Int) (o : List Int) (r0 r1 r2 : Int) (ro : List Int) (K : AExit → Tr AV → Mem → Prop) (S : Scr) : Prop := sxC prog (gl m) kAlive 98 mo (cp [1,1,1,1,1,1,1,0] F5) (finK 0 K) S (few [(11, .ds {} (o.map vi) o.length), (13, .ra 0 0 4)]) (mm [toldD r0 r1 r2 ro])
noncomputable def lcJ (m : Int) (o : List Int) (r0 r1 r2 : Int) (ro : List Int) (K : AExit → Tr AV → Mem → Prop) (S : Scr) : Prop := sxC prog (gl m) (kInAl o ro) 98 mo (cp [1,1,1,1,1,1,1,1] F5) (finK 0 K) S (few [(11, .ds {} (o.map vi) o.length), (13, .ra 0 0 4)]) (mm [toldD r0 r1 r2 ro])
set_option maxRecDepth 100000 in
theorem lcA_eq (m : Int) (n : Int) (s : Int) (hd : SH) (p : List (Int × Int)) (K : AExit → Tr AV → Mem → Prop) : lcA m n s hd p K (Scr.fin [0, 1, 2]) = (
    K AExit.normal (few [(0, AV.ds hd (eA p) (List.length p)), (1, AV.int IntKind.i64 n), (2, AV.int IntKind.i64 s)])
  (mm [])) := by kernel_rfl
set_option maxRecDepth 100000 in
theorem lcB_eq (m : Int) (n : Int) (s : Int) (hd : SH) (p : List (Int × Int)) (K : AExit → Tr AV → Mem → Prop) : lcB m n s hd p K (Scr.fin [1, 2, 7]) = (
    eA p = eA p ∧
  List.length p = List.length p ∧
    K AExit.normal
      (few
        [(1, AV.int IntKind.i64 n), (2, AV.int IntKind.i64 s),
          (7, AV.ds (SH.mk false false none) (eA (List.take 4001 p)) (List.length (List.take 4001 p)))])
      (mm [])) := by kernel_rfl
set_option maxRecDepth 100000 in
theorem lcC_eq (m : Int) (n : Int) (s : Int) (p : List (Int × Int)) (x : Int) (a : Int) (e : Int) (K : AExit → Tr AV → Mem → Prop) : lcC m n s p x a e K (Scr.fin [1, 2, 7, 8, 9, 10]) = (
    eA p = eA p ∧
  List.length p = List.length p ∧
    ChkV n s p = (x, a, e) ∧
      K AExit.normal
        (few
          [(1, AV.int IntKind.i64 n), (2, AV.int IntKind.i64 s),
            (7, AV.ds (SH.mk false false none) (eA p) (List.length p)), (8, AV.int IntKind.i64 x),
            (9, AV.int IntKind.i64 a), (10, AV.int IntKind.i64 e)])
        (mm [])) := by kernel_rfl
set_option maxRecDepth 100000 in
theorem lcD_eq (m : Int) (n : Int) (s : Int) (p : List (Int × Int)) (x : Int) (a : Int) (e : Int) (o : List Int) (e2 : Int) (K : AExit → Tr AV → Mem → Prop) : lcD m n s p x a e o e2 K (Scr.fin [1, 2, 7, 8, 9, 10, 11, 12]) = (
    eA p = eA p ∧
  List.length p = List.length p ∧
    OftV n s p = (o, e2) ∧
      K AExit.normal
        (few
          [(1, AV.int IntKind.i64 n), (2, AV.int IntKind.i64 s),
            (7, AV.ds (SH.mk false false none) (eA p) (List.length p)), (8, AV.int IntKind.i64 x),
            (9, AV.int IntKind.i64 a), (10, AV.int IntKind.i64 e),
            (11, AV.ds (SH.mk false false none) (List.map vi o) (List.length o)), (12, AV.int IntKind.i64 e2)])
        (mm [])) := by kernel_rfl
set_option maxRecDepth 100000 in
theorem lcE_eq (m : Int) (n : Int) (s : Int) (p : List (Int × Int)) (x : Int) (a : Int) (e : Int) (o : List Int) (e2 : Int) (b : Bool) (K : AExit → Tr AV → Mem → Prop) : lcE m n s p x a e o e2 b K (Scr.fin [1, 2, 7, 8, 9, 10, 11, 12, 33]) = (
    decide (badP n s) = b ∧
  K AExit.normal
    (few
      [(1, AV.int IntKind.i64 n), (2, AV.int IntKind.i64 s), (7, AV.ds (SH.mk false false none) (eA p) (List.length p)),
        (8, AV.int IntKind.i64 x), (9, AV.int IntKind.i64 a), (10, AV.int IntKind.i64 e),
        (11, AV.ds (SH.mk false false none) (List.map vi o) (List.length o)), (12, AV.int IntKind.i64 e2),
        (33, AV.bool b)])
    (mm [])) := by kernel_rfl
set_option maxRecDepth 100000 in
theorem lcF_eq (m : Int) (n : Int) (s : Int) (p : List (Int × Int)) (x : Int) (a : Int) (e : Int) (o : List Int) (e2 : Int) (b : Bool) (K : AExit → Tr AV → Mem → Prop) : lcF m n s p x a e o e2 b K (Scr.sp
  (Scr.sp
    (Scr.tt
      (Scr.sp
        (Scr.tt
          (Scr.sp
            (Scr.tt (Scr.tt (Scr.sp (Scr.tt (Scr.sp (Scr.fin [6]) (Scr.fin [6]))) (Scr.ff (Scr.ff (Scr.fin [6]))))))
            (Scr.ff (Scr.ff (Scr.ff (Scr.ff (Scr.ff (Scr.fin [6]))))))))
        (Scr.ff (Scr.ff (Scr.ff (Scr.ff (Scr.ff (Scr.ff (Scr.ff (Scr.fin [6]))))))))))
    (Scr.ff (Scr.ff (Scr.ff (Scr.ff (Scr.ff (Scr.ff (Scr.ff (Scr.ff (Scr.ff (Scr.fin [6])))))))))))
  (Scr.fin [1, 2, 7, 8, 9, 10, 11, 12])) = (
    (b = true →
    ((x == 0) = true →
        ((a == 0) = true →
            ((e == 2) = true →
                (((↑(List.length o) : Int) == 0) = true →
                    ((e2 == 2) = true → K AExit.ret (few [(6, AV.bool true)]) (mm [])) ∧
                      ((e2 == 2) = false → K AExit.ret (few [(6, AV.bool false)]) (mm []))) ∧
                  (((↑(List.length o) : Int) == 0) = false → K AExit.ret (few [(6, AV.bool false)]) (mm []))) ∧
              ((e == 2) = false → K AExit.ret (few [(6, AV.bool false)]) (mm []))) ∧
          ((a == 0) = false → K AExit.ret (few [(6, AV.bool false)]) (mm []))) ∧
      ((x == 0) = false → K AExit.ret (few [(6, AV.bool false)]) (mm []))) ∧
  (b = false →
    K AExit.normal
      (few
        [(1, AV.int IntKind.i64 n), (2, AV.int IntKind.i64 s),
          (7, AV.ds (SH.mk false false none) (eA p) (List.length p)), (8, AV.int IntKind.i64 x),
          (9, AV.int IntKind.i64 a), (10, AV.int IntKind.i64 e),
          (11, AV.ds (SH.mk false false none) (List.map vi o) (List.length o)), (12, AV.int IntKind.i64 e2)])
      (mm []))) := by kernel_rfl
set_option maxRecDepth 100000 in
theorem lcG_eq (m : Int) (n : Int) (s : Int) (p : List (Int × Int)) (x : Int) (a : Int) (e : Int) (o : List Int) (e2 : Int) (r0 : Int) (r1 : Int) (r2 : Int) (ro : List Int) (K : AExit → Tr AV → Mem → Prop) : lcG m n s p x a e o e2 r0 r1 r2 ro K (Scr.fin [8, 9, 10, 11, 12, 13]) = (
    eA p = eA p ∧
  List.length p = List.length p ∧
    (1 ≤ n ∧ n ≤ 40 ∧ 0 ≤ s) ∧
      checkV n s p = (ro, r1, r2) ∧
        K AExit.normal
          (few
            [(8, AV.int IntKind.i64 x), (9, AV.int IntKind.i64 a), (10, AV.int IntKind.i64 e),
              (11, AV.ds (SH.mk false false none) (List.map vi o) (List.length o)), (12, AV.int IntKind.i64 e2),
              (13, AV.ra 0 0 4)])
          (mm
            [Slot.blk
                (Blk.mk
                  [AV.int IntKind.i64 (sumZ ro), AV.int IntKind.i64 r1, AV.int IntKind.i64 r2,
                    AV.ds (SH.mk false false none) (List.map vi ro) (List.length ro)]
                  4 false false (some 39))])) := by kernel_rfl
set_option maxRecDepth 100000 in
theorem lcH_eq (m : Int) (n : Int) (s : Int) (p : List (Int × Int)) (x : Int) (a : Int) (e : Int) (o : List Int) (e2 : Int) (r0 : Int) (r1 : Int) (r2 : Int) (ro : List Int) (K : AExit → Tr AV → Mem → Prop) : lcH m n s p x a e o e2 r0 r1 r2 ro K (Scr.sp
  (Scr.tt
    (Scr.tt (Scr.tt (Scr.tt (Scr.tt (Scr.tt (Scr.tt (Scr.tt (Scr.tt (Scr.tt (Scr.tt (Scr.tt (Scr.fin [6])))))))))))))
  (Scr.ff
    (Scr.ff
      (Scr.ff
        (Scr.sp (Scr.tt (Scr.tt (Scr.tt (Scr.tt (Scr.tt (Scr.tt (Scr.tt (Scr.tt (Scr.fin [6])))))))))
          (Scr.ff
            (Scr.ff
              (Scr.ff
                (Scr.sp (Scr.tt (Scr.tt (Scr.tt (Scr.tt (Scr.fin [6])))))
                  (Scr.ff (Scr.ff (Scr.ff (Scr.sp (Scr.fin [6]) (Scr.fin [11, 13])))))))))))))) = (
    ((x != r0) = true →
    K AExit.ret (few [(6, AV.bool false)])
      (mm
        [Slot.blk
            (Blk.mk
              [AV.int IntKind.i64 r0, AV.int IntKind.i64 r1, AV.int IntKind.i64 r2,
                AV.ds (SH.mk false false none) (List.map vi ro) (List.length ro)]
              4 false false (some 39))])) ∧
  ((x != r0) = false →
    ((a != r1) = true →
        K AExit.ret (few [(6, AV.bool false)])
          (mm
            [Slot.blk
                (Blk.mk
                  [AV.int IntKind.i64 r0, AV.int IntKind.i64 r1, AV.int IntKind.i64 r2,
                    AV.ds (SH.mk false false none) (List.map vi ro) (List.length ro)]
                  4 false false (some 39))])) ∧
      ((a != r1) = false →
        ((e != r2) = true →
            K AExit.ret (few [(6, AV.bool false)])
              (mm
                [Slot.blk
                    (Blk.mk
                      [AV.int IntKind.i64 r0, AV.int IntKind.i64 r1, AV.int IntKind.i64 r2,
                        AV.ds (SH.mk false false none) (List.map vi ro) (List.length ro)]
                      4 false false (some 39))])) ∧
          ((e != r2) = false →
            ((e2 != r2) = true →
                K AExit.ret (few [(6, AV.bool false)])
                  (mm
                    [Slot.blk
                        (Blk.mk
                          [AV.int IntKind.i64 r0, AV.int IntKind.i64 r1, AV.int IntKind.i64 r2,
                            AV.ds (SH.mk false false none) (List.map vi ro) (List.length ro)]
                          4 false false (some 39))])) ∧
              ((e2 != r2) = false →
                K AExit.normal
                  (few [(11, AV.ds (SH.mk false false none) (List.map vi o) (List.length o)), (13, AV.ra 0 0 4)])
                  (mm
                    [Slot.blk
                        (Blk.mk
                          [AV.int IntKind.i64 r0, AV.int IntKind.i64 r1, AV.int IntKind.i64 r2,
                            AV.ds (SH.mk false false none) (List.map vi ro) (List.length ro)]
                          4 false false (some 39))])))))) := by kernel_rfl
set_option maxRecDepth 100000 in
theorem lcI_eq (m : Int) (o : List Int) (r0 : Int) (r1 : Int) (r2 : Int) (ro : List Int) (K : AExit → Tr AV → Mem → Prop) : lcI m o r0 r1 r2 ro K (Scr.sp (Scr.sp (Scr.fin [6]) (Scr.fin [6])) (Scr.fin [11, 13])) = (
    ((r2 != 0) = true →
    (((↑(List.length o) : Int) == 0) = true →
        K AExit.ret (few [(6, AV.bool true)])
          (mm
            [Slot.blk
                (Blk.mk
                  [AV.int IntKind.i64 r0, AV.int IntKind.i64 r1, AV.int IntKind.i64 r2,
                    AV.ds (SH.mk false false none) (List.map vi ro) (List.length ro)]
                  4 false false (some 39))])) ∧
      (((↑(List.length o) : Int) == 0) = false →
        K AExit.ret (few [(6, AV.bool false)])
          (mm
            [Slot.blk
                (Blk.mk
                  [AV.int IntKind.i64 r0, AV.int IntKind.i64 r1, AV.int IntKind.i64 r2,
                    AV.ds (SH.mk false false none) (List.map vi ro) (List.length ro)]
                  4 false false (some 39))]))) ∧
  ((r2 != 0) = false →
    K AExit.normal (few [(11, AV.ds (SH.mk false false none) (List.map vi o) (List.length o)), (13, AV.ra 0 0 4)])
      (mm
        [Slot.blk
            (Blk.mk
              [AV.int IntKind.i64 r0, AV.int IntKind.i64 r1, AV.int IntKind.i64 r2,
                AV.ds (SH.mk false false none) (List.map vi ro) (List.length ro)]
              4 false false (some 39))]))) := by kernel_rfl
set_option maxRecDepth 100000 in
theorem lcJ_eq (m : Int) (o : List Int) (r0 : Int) (r1 : Int) (r2 : Int) (ro : List Int) (K : AExit → Tr AV → Mem → Prop) : lcJ m o r0 r1 r2 ro K (Scr.sp (Scr.fin [6]) (Scr.fin [6])) = (
    List.map vi o = List.map vi o ∧
  List.length o = List.length o ∧
    List.map vi ro = List.map vi ro ∧
      List.length ro = List.length ro ∧
        List.length o ≤ 281474976710655 ∧
          (decide (o = ro) = true →
              K AExit.ret (few [(6, AV.bool true)])
                (mm
                  [Slot.blk
                      (Blk.mk
                        [AV.int IntKind.i64 r0, AV.int IntKind.i64 r1, AV.int IntKind.i64 r2,
                          AV.ds (SH.mk false false none) (List.map vi ro) (List.length ro)]
                        4 false false (some 39))])) ∧
            (decide (o = ro) = false →
              K AExit.ret (few [(6, AV.bool false)])
                (mm
                  [Slot.blk
                      (Blk.mk
                        [AV.int IntKind.i64 r0, AV.int IntKind.i64 r1, AV.int IntKind.i64 r2,
                          AV.ds (SH.mk false false none) (List.map vi ro) (List.length ro)]
                        4 false false (some 39))]))) := by kernel_rfl
end Go.Proofs.YtpiincgiakkljaaGreatDoor
/-
  ReplayChecks answers true.
-/
namespace Go.Proofs.YtpiincgiakkljaaGreatDoor
open Go

theorem checkL_err {n s : Int} {len : Nat} : ∀ {l : List (Int × Int)} {i : Nat} {h : Hs} {o : List Int}, (checkL n s len l i h o).2.2 ≠ 0 → (checkL n s len l i h o).1 = []
  | [], i, h, o, he => by
    rw [checkL] at he ⊢
    split at he
    · rename_i q; rw [if_pos q]
    · exact absurd rfl he
  | a :: l, i, h, o, he => by
    rw [checkL] at he ⊢
    rcases hm : mayV n s h a.1 a.2 with ⟨b, h2⟩
    rw [hm] at he
    cases b with
    | false => rfl
    | true => exact checkL_err he

theorem checkV_err {n s : Int} {p : List (Int × Int)} (he : (checkV n s p).2.2 ≠ 0) : (checkV n s p).1 = [] := by
  unfold checkV at he ⊢
  split
  · rfl
  · rename_i q
    rw [if_neg q] at he
    exact checkL_err he

theorem F5_split : F5 = .seq (cp [0] F5) (.seq (cp [1,0] F5) (.seq (cp [1,1,0] F5) (.seq (cp [1,1,1,0] F5) (.seq (.seq (cp [1,1,1,1,0,0] F5) (cp [1,1,1,1,0,1] F5)) (.seq (cp [1,1,1,1,1,0] F5) (.seq (cp [1,1,1,1,1,1,0] F5) (.seq (cp [1,1,1,1,1,1,1,0] F5) (cp [1,1,1,1,1,1,1,1] F5)))))))) := by kernel_rfl

theorem fin5 (l : List Slot) : Lf (FinL prog Tryz.f5 (.bool true)) .ret (few [(6, AV.bool true)]) (mm l) := finL_ret [.bool true] [] (by rw [mm_hfL]; kernel_rfl) (by rfl)

set_option maxRecDepth 100000 in
theorem ReplayChecks_hasL (m n s : Int) (hd : SH) (p0 : List (Int × Int)) : HasL prog (gl m) 5 [dA hd p0, vi n, vi s] (.bool true) := by
  refine hasL_sx Tryz.func5 (code := F5) (by kernel_rfl) (of_decide_eq_true (by kernel_rfl)) fun c st hel hs => ?_
  rw [F5_split]
  refine awp_seq (awp_sx kx0_ok hel ((lcA_eq m n s hd p0 _).mpr fun st1 h1 => ?_) hs)
  refine awp_seq (awp_sx (kCut_ok m p0) hel ((lcB_eq m n s hd p0 _).mpr ⟨rfl, rfl, ?_⟩) h1)
  generalize p0.take 4001 = p
  intro st2 h2
  by_cases hb : badP n s
  · refine awp_seq (awp_sx (kChk_ok m p 0 0 2) hel ((lcC_eq m n s p 0 0 2 _).mpr ⟨rfl, rfl, by rw [ChkV, if_pos hb], fun st3 h3 => ?_⟩) h2)
    refine awp_seq (awp_sx (kOft_ok m p [] 2) hel ((lcD_eq m n s p 0 0 2 [] 2 _).mpr ⟨rfl, rfl, by rw [OftV, if_pos hb], fun st4 h4 => ?_⟩) h3)
    refine awp_seq (awp_seq (awp_sx (kBad_ok m true) hel ((lcE_eq m n s p 0 0 2 [] 2 true _).mpr ⟨decide_eq_true hb, fun st5 h5 => ?_⟩) h4))
    refine awp_sx (kAlive_ok m) hel ((lcF_eq m n s p 0 0 2 [] 2 true _).mpr ⟨fun _ => ⟨fun _ => ⟨fun _ => ⟨fun _ => ⟨fun _ => ⟨fun _ => ?_, fun h => ?_⟩, fun h => ?_⟩, fun h => ?_⟩, fun h => ?_⟩, fun h => ?_⟩, fun h => ?_⟩) h5
    · exact fin5 []
    all_goals exact absurd h (by decide)
  · have hq := checkV_err (n := n) (s := s) (p := p)
    have hbd := checkV_bound (n := n) (s := s) (p := p)
    rcases hv : checkV n s p with ⟨o, a, e⟩
    rw [hv] at hq hbd
    simp only at hq hbd
    have hb2 := hb
    unfold badP at hb2
    refine awp_seq (awp_sx (kChk_ok m p (sumZ o) a e) hel ((lcC_eq m n s p (sumZ o) a e _).mpr ⟨rfl, rfl, by rw [ChkV, if_neg hb, hv], fun st3 h3 => ?_⟩) h2)
    refine awp_seq (awp_sx (kOft_ok m p o e) hel ((lcD_eq m n s p (sumZ o) a e o e _).mpr ⟨rfl, rfl, by rw [OftV, if_neg hb, hv], fun st4 h4 => ?_⟩) h3)
    refine awp_seq (awp_seq (awp_sx (kBad_ok m false) hel ((lcE_eq m n s p (sumZ o) a e o e false _).mpr ⟨decide_eq_false hb, fun st5 h5 => ?_⟩) h4))
    refine awp_sx (kAlive_ok m) hel ((lcF_eq m n s p (sumZ o) a e o e false _).mpr ⟨fun h => ?_, fun _ st6 h6 => ?_⟩) h5
    · cases h
    refine awp_seq (awp_sx (kRef_ok m p o a e) hel ((lcG_eq m n s p (sumZ o) a e o e (sumZ o) a e o _).mpr ⟨rfl, rfl, by omega, hv, fun st7 h7 => ?_⟩) h6)
    refine awp_seq (awp_sx (kAlive_ok m) hel ((lcH_eq m n s p (sumZ o) a e o e (sumZ o) a e o _).mpr ⟨fun h => ?_, fun _ => ⟨fun h => ?_, fun _ => ⟨fun h => ?_, fun _ => ⟨fun h => ?_, fun _ st8 h8 => ?_⟩⟩⟩⟩) h7)
    · simp at h
    · simp at h
    · simp at h
    · simp at h
    refine awp_seq (awp_sx (kAlive_ok m) hel ((lcI_eq m o (sumZ o) a e o _).mpr ⟨fun h => ⟨fun _ => ?_, fun h2 => ?_⟩, fun _ st9 h9 => ?_⟩) h8)
    · exact fin5 _
    · have : o = [] := hq (by simpa using h)
      subst this
      exact absurd h2 (by decide)
    refine awp_sx (kInAl_ok m o o) hel ((lcJ_eq m o (sumZ o) a e o _).mpr ⟨rfl, rfl, rfl, rfl, by have := (hbd (by omega) (by omega)).2; omega, fun _ => ?_, fun h => ?_⟩) h9
    · exact fin5 _
    simp at h
end Go.Proofs.YtpiincgiakkljaaGreatDoor
