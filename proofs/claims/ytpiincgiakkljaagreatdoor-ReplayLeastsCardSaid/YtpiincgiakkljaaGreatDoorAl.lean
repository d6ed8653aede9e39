/-
  The table of least steps: what filled gives.
-/
import Derived.Test.YtpiincgiakkljaaGreatDoorFi0
import Derived.Test.YtpiincgiakkljaaGreatDoorFi1
import Derived.Test.YtpiincgiakkljaaGreatDoorFi2
import Derived.Test.YtpiincgiakkljaaGreatDoorFi3
import Derived.Test.YtpiincgiakkljaaGreatDoorFi4
import Derived.Test.YtpiincgiakkljaaGreatDoorFi5
import Derived.Test.YtpiincgiakkljaaGreatDoorFi6
import Derived.Test.YtpiincgiakkljaaGreatDoorFi7
import Derived.Test.YtpiincgiakkljaaGreatDoorFi8
import Derived.Test.YtpiincgiakkljaaGreatDoorFi9
import Derived.Test.YtpiincgiakkljaaGreatDoorPa
import Derived.Test.YtpiincgiakkljaaGreatDoorCk
import Derived.Test.YtpiincgiakkljaaGreatDoorTk
import Derived.Test.YtpiincgiakkljaaGreatDoorFe
set_option linter.unusedSimpArgs false
set_option linter.unusedVariables false
namespace Go.Proofs.YtpiincgiakkljaaGreatDoor
open Go

noncomputable section
def tOf (r : Res) : Tr AV := match r with | .norm t _ => t | .ret t _ => t | .exit _ t _ => t | .fail => .e
def mOf (r : Res) : Mem := match r with | .norm _ m => m | .ret _ m => m | .exit _ _ m => m | .fail => ⟨.e, 0, 0, [], 0⟩
def isNorm (r : Res) : Bool := match r with | .norm .. => true | _ => false
def isRet (r : Res) : Bool := match r with | .ret .. => true | _ => false
def isExit (k : Nat) (r : Res) : Bool := match r with | .exit i .. => Nat.beq i k | _ => false
end

theorem isNorm_eq {r : Res} (h : isNorm r = true) : r = .norm (tOf r) (mOf r) := by cases r <;> first | rfl | cases h
theorem isRet_eq {r : Res} (h : isRet r = true) : r = .ret (tOf r) (mOf r) := by cases r <;> first | rfl | cases h
theorem isExit_eq {r : Res} {k : Nat} (h : isExit k r = true) : r = .exit k (tOf r) (mOf r) := by
  cases r with
  | exit i t m => have := Nat.eq_of_beq_eq_true h; subst this; rfl
  | _ => cases h

section
variable {P : Program} {GL : Globs} {n : Nat} {c : Ctx} {Q : Post} {kn : Kn}
theorem awp_norm (hkn : KnOk P GL kn) {fuel : Nat} {code : Code} {t : Tr AV} {m : Mem} (ok : MemOk m) {r : Res} (hr : runC P GL kn fuel (codeC P GL (P.follows .mixedOrders) n code) t m = r) (hn : isNorm r = true) {s : St} (hs : s.t = t.tf) (hh : s.h = m.h.hf)
    (hQ : MemOk (mOf r) → ∀ s', s'.t = (tOf r).tf → s'.h = (mOf r).h.hf → Q .normal s') : AWP P GL n c code s Q :=
  awp_of_run hkn (x := .normal) ok (hr.trans (isNorm_eq hn)) (fun h => by cases h) hs hh hQ
theorem awp_retn (hkn : KnOk P GL kn) {fuel : Nat} {code : Code} {t : Tr AV} {m : Mem} (ok : MemOk m) {r : Res} (hr : runC P GL kn fuel (codeC P GL (P.follows .mixedOrders) n code) t m = r) (hn : isRet r = true) {s : St} (hs : s.t = t.tf) (hh : s.h = m.h.hf)
    (hQ : MemOk (mOf r) → ∀ s', s'.t = (tOf r).tf → s'.h = (mOf r).h.hf → Q .ret s') : AWP P GL n c code s Q :=
  awp_of_run hkn (x := .ret) ok (hr.trans (isRet_eq hn)) (fun h => by cases h) hs hh hQ
theorem awp_exitn (hkn : KnOk P GL kn) {fuel : Nat} {code : Code} {t : Tr AV} {m : Mem} (ok : MemOk m) {r : Res} {k : Nat} (hr : runC P GL kn fuel (codeC P GL (P.follows .mixedOrders) n code) t m = r) (hn : isExit k r = true) {s : St} (hs : s.t = t.tf) (hh : s.h = m.h.hf)
    (hQ : MemOk (mOf r) → ∀ s', s'.t = (tOf r).tf → s'.h = (mOf r).h.hf → Q (.exit k) s') : AWP P GL n c code s Q :=
  awp_of_run hkn (x := .exit k) ok (hr.trans (isExit_eq hn)) (fun h => by cases h) hs hh hQ
end

def ftabV : AV := vA false (ftab41.map vi)
def fend : List (Nat × Slot) := [(0, .blk (fblk ftab41))]

def m0 : Mem := ⟨.e, 0, 0, [], 0⟩
theorem m0_ok : MemOk m0 := ⟨fun i hi => by simp [m0] at hi, fun i hi => (by cases hi), Nat.le_refl _, fun i _ => by
  show Option.rec Slot.free (fun a => a) ((Tr.e : Tr Slot).get (path i)) = Slot.free
  rw [Tr.get_e]⟩

noncomputable section
def fR0 (m : Int) : Res := fRun m (sq1 fC) .e m0
def fR1 (m : Int) : Res := fRun m (sq1 (sq2 fC)) (tOf (fR0 m)) (mOf (fR0 m))
def fR2 (m : Int) : Res := fRun m (sq1 (sq1 (sq2 (sq2 fC)))) (tOf (fR1 m)) (mOf (fR1 m))
def fR3 (m : Int) : Res := fRun m fA (ft 41) (oneMem (fblk ftab41))
def fR4 (m : Int) : Res := fRun m (sq2 (sq2 (sq2 fC))) (tOf (fR3 m)) (mOf (fR3 m))
def fEnd (m : Int) : Bool := AV.eqB ((tOf (fR4 m)).tf 0) (.ra 0 0 656) && memB (oneMem (fblk ftab41)) (mOf (fR4 m))
end

set_option maxRecDepth 1000000 in
theorem fn0 (m : Int) : isNorm (fR0 m) = true := by kernel_rfl
set_option maxRecDepth 1000000 in
theorem fn1 (m : Int) : isNorm (fR1 m) = true := by kernel_rfl
set_option maxRecDepth 1000000 in
theorem fn2 (m : Int) : isNorm (fR2 m) = true := by kernel_rfl
set_option maxRecDepth 1000000 in
theorem fn2' (m : Int) : (leT (ft 2) (tOf (fR2 m)) && memB (oneMem (fblk ftab2)) (mOf (fR2 m))) = true := by kernel_rfl
set_option maxRecDepth 1000000 in
theorem fn3 (m : Int) : isExit 0 (fR3 m) = true := by kernel_rfl
set_option maxRecDepth 1000000 in
theorem fn4 (m : Int) : isRet (fR4 m) = true := by kernel_rfl
set_option maxRecDepth 1000000 in
theorem fn4' (m : Int) : fEnd m = true := by kernel_rfl
theorem fcode : fC = .seq (sq1 fC) (.seq (sq1 (sq2 fC)) (.seq (.seq (sq1 (sq1 (sq2 (sq2 fC)))) (.block 0 (.loop fA))) (sq2 (sq2 (sq2 fC))))) := by kernel_rfl
theorem fbody : Tryz.f22.body = some fC := by kernel_rfl
theorem fres : Tryz.f22.results.toList = [.tmp 0] := by kernel_rfl
theorem free_hf : (Tr.e : Tr Slot).hf = fun _ => .free := by
  funext i
  show Option.rec Slot.free (fun a => a) ((Tr.e : Tr Slot).get (path i)) = Slot.free
  rw [Tr.get_e]
theorem one_hf (b : Blk) : (oneMem b).h.hf = putAll (fun _ => .free) [(0, .blk b)] := by
  funext i
  have ok := oneMem_ok b
  by_cases hi : i = 0
  · subst hi
    rfl
  · rw [ok.top i (by show 1 ≤ i; omega)]
    show Slot.free = upd (fun _ => Slot.free) 0 (.blk b) i
    rw [upd_ne _ _ hi]

theorem fRun_eq (m : Int) (c : Code) (t : Tr AV) (mm : Mem) : runC prog (gl m) kn0 100000 (codeC prog (gl m) (prog.follows .mixedOrders) fN c) t mm = fRun m c t mm := rfl

theorem filled_has (m : Int) : Has prog (gl m) 22 [] (fun _ => .free) (.ret (.ra 0 0 656)) fend := by
  refine has_of_awp (next := 0) Tryz.func22 fbody (Nat.zero_le _) fun c => ?_
  rw [fcode]
  refine awp_seq (awp_norm (kn0_ok m) (r := fR0 m) m0_ok (fRun_eq m _ _ _) (fn0 m) (by funext k; show AV.junk = Tr.tf .e k; unfold Tr.tf; rw [Tr.get_e]; rfl) free_hf.symm fun ok1 s1 t1 h1 => ?_)
  refine awp_seq (awp_norm (kn0_ok m) (r := fR1 m) ok1 (fRun_eq m _ _ _) (fn1 m) t1 h1 fun ok2 s2 t2 h2 => ?_)
  refine awp_seq (awp_seq (awp_norm (kn0_ok m) (r := fR2 m) ok2 (fRun_eq m _ _ _) (fn2 m) t2 h2 fun ok3 s3 t3 h3 => ?_))
  have hle := fn2' m
  rw [Bool.and_eq_true] at hle
  refine awp_block (LoopOk.awp (j := 1 + 1 + 2 + 1 + 2 + 3 + 3 + 4 + 4 + 6 + 13) (LoopOk.le (s := ⟨(ft 2).tf, (oneMem (fblk ftab2)).h.hf, 0⟩) ⟨fun k => ?_, ?_⟩ ?_))
  · show (ft 2).tf k = .junk ∨ (ft 2).tf k = s3.t k
    rw [t3]
    exact leT_sound hle.1 k
  · show (oneMem (fblk ftab2)).h.hf = s3.h
    rw [h3]
    exact memB_sound hle.2 (oneMem_ok _) ok3
  · refine loopOk_chunk (kn0_ok m) (oneMem_ok _) (oneMem_ok _) (fch0 m) ?_ _ rfl rfl
    refine loopOk_chunk (kn0_ok m) (oneMem_ok _) (oneMem_ok _) (fch1 m) ?_ _ rfl rfl
    refine loopOk_chunk (kn0_ok m) (oneMem_ok _) (oneMem_ok _) (fch2 m) ?_ _ rfl rfl
    refine loopOk_chunk (kn0_ok m) (oneMem_ok _) (oneMem_ok _) (fch3 m) ?_ _ rfl rfl
    refine loopOk_chunk (kn0_ok m) (oneMem_ok _) (oneMem_ok _) (fch4 m) ?_ _ rfl rfl
    refine loopOk_chunk (kn0_ok m) (oneMem_ok _) (oneMem_ok _) (fch5 m) ?_ _ rfl rfl
    refine loopOk_chunk (kn0_ok m) (oneMem_ok _) (oneMem_ok _) (fch6 m) ?_ _ rfl rfl
    refine loopOk_chunk (kn0_ok m) (oneMem_ok _) (oneMem_ok _) (fch9 m) ?_ _ rfl rfl
    refine loopOk_chunk (kn0_ok m) (oneMem_ok _) (oneMem_ok _) (fch7 m) ?_ _ rfl rfl
    refine loopOk_chunk (kn0_ok m) (oneMem_ok _) (oneMem_ok _) (fch8 m) ?_ _ rfl rfl
    show AWP prog (gl m) fN c fA _ _
    refine awp_exitn (kn0_ok m) (r := fR3 m) (oneMem_ok _) (fRun_eq m _ _ _) (fn3 m) rfl rfl fun ok4 s4 t4 h4 => ?_
    show AWP prog (gl m) fN c (sq2 (sq2 (sq2 fC))) s4 _
    refine awp_retn (kn0_ok m) (r := fR4 m) ok4 (fRun_eq m _ _ _) (fn4 m) t4 h4 fun ok5 s5 t5 h5 => ?_
    have he := fn4' m
    unfold fEnd at he
    rw [Bool.and_eq_true] at he
    refine ⟨[.ra 0 0 656], .ra 0 0 656, [], ?_, .inr ⟨rfl, rfl⟩, rfl, .inl ?_⟩
    · have e0 := AV.eqB_sound he.1
      rw [fres, t5, ← e0]
      rfl
    · show s5.h = _
      rw [h5, ← memB_sound he.2 (oneMem_ok _) ok5]
      exact one_hf _

noncomputable def frzU : List (Nat × Slot) := match frzD frzN (putAll (fun _ => .free) fend) (.ra 0 0 656) with | some p => p.2 | none => []
theorem filled_hasL (m : Int) : HasL prog (gl m) 22 [] ftabV := hasL_of_has (u := frzU) (filled_has m) (by kernel_rfl)
end Go.Proofs.YtpiincgiakkljaaGreatDoor
/-
  What every right program knows of three steps: alive returns true.
-/
namespace Go.Proofs.YtpiincgiakkljaaGreatDoor
open Go

noncomputable def kn2 : Kn where
  kn := fun g l => bif Nat.beq g 22 then (match l with
      | [] => some fun nid => ⟨ftabV, [], nid⟩
      | _ => none)
    else bif Nat.beq g 24 then (bif AV.eqBL a24_0 l then some (fun nid => ⟨r24_0, [], nid⟩) else none)
    else idxKn 85 g l
  kl := fun g => match grads_kl g with
    | some f => some f
    | none => runs_kl g

theorem kn2_ok (m : Int) : KnOk prog (gl m) kn2 where
  byVal := by
    intro g l f nid h hp _
    unfold kn2 at h
    simp only at h
    cases h1 : Nat.beq g 22 with
    | true =>
      rw [h1] at h
      simp only [cond_true] at h
      split at h
      · cases h
        have := Nat.eq_of_beq_eq_true h1
        subst this
        exact (filled_hasL m).has rfl hp
      · cases h
    | false =>
      rw [h1] at h
      simp only [cond_false] at h
      cases h2 : Nat.beq g 24 with
      | true =>
        rw [h2] at h
        simp only [cond_true] at h
        cases h3 : AV.eqBL a24_0 l with
        | true =>
          rw [h3] at h
          cases h
          have := Nat.eq_of_beq_eq_true h2
          subst this
          have := AV.eqBL_sound h3
          subst this
          exact (hl24_0 m).has rfl hp
        | false => rw [h3] at h; cases h
      | false =>
        rw [h2] at h
        exact idxKn_ok m h nid hp
  byLend := by
    intro g f l v h hv
    unfold kn2 at h
    simp only at h
    split at h
    · rename_i f' hf
      cases h
      exact grads_ok m g f l v hf hv
    · exact runs_ok m g f l v h hv

set_option maxRecDepth 1000000 in
theorem alive_hasL (m : Int) : HasL prog (gl m) 11 [] (.bool true) := hasL_run (kn2_ok m) 100000 Tryz.func11 (by kernel_rfl) (by kernel_rfl) (by kernel_rfl)
end Go.Proofs.YtpiincgiakkljaaGreatDoor
/-
  Laws of three numbers: what is known beforehand; states in few words.
-/
namespace Go.Proofs.YtpiincgiakkljaaGreatDoor
open Go

/-- What the laws know of calls. -/
noncomputable def kn3 : Kn where
  kn := fun g l => bif Nat.beq g 22 then (match l with
      | [] => some fun nid => ⟨ftabV, [], nid⟩
      | _ => none)
    else bif Nat.beq g 11 then (match l with
      | [] => some fun nid => ⟨.bool true, [], nid⟩
      | _ => none)
    else none

theorem kn3_ok (m : Int) : KnOk prog (gl m) kn3 where
  byVal := by
    intro g l f nid h hp _
    unfold kn3 at h
    simp only at h
    cases h1 : Nat.beq g 22 with
    | true =>
      rw [h1] at h
      simp only [cond_true] at h
      split at h
      · cases h
        have := Nat.eq_of_beq_eq_true h1
        subst this
        exact (filled_hasL m).has rfl hp
      · cases h
    | false =>
      rw [h1] at h
      simp only [cond_false] at h
      cases h2 : Nat.beq g 11 with
      | true =>
        rw [h2] at h
        simp only [cond_true] at h
        split at h
        · cases h
          have := Nat.eq_of_beq_eq_true h2
          subst this
          exact (alive_hasL m).has rfl hp
        · cases h
      | false => rw [h2] at h; cases h
  byLend := fun _ _ _ _ h _ => by cases h

noncomputable def rg (c : Code) (n : Nat) (m : Int) : Tr AV → Mem → Res := runC prog (gl m) kn3 100000 (codeC prog (gl m) (prog.follows .mixedOrders) n c)
theorem rg_eq (c : Code) (n : Nat) (m : Int) (t : Tr AV) (mm : Mem) : runC prog (gl m) kn3 100000 (codeC prog (gl m) (prog.follows .mixedOrders) n c) t mm = rg c n m t mm := rfl

theorem m0_hf : m0.h.hf = fun _ => .free := free_hf

def nums : Nat → List Int
  | 0 => []
  | n + 1 => nums n ++ [Int.ofNat n]
theorem mem_nums : ∀ {n : Nat} {x : Int}, 0 ≤ x → x < n → x ∈ nums n
  | 0, x, h1, h2 => by omega
  | n + 1, x, h1, h2 => by
    rw [nums, List.mem_append]
    by_cases hx : x < n
    · exact .inl (mem_nums h1 hx)
    · right
      rw [List.mem_singleton]
      show x = (n : Int)
      omega
end Go.Proofs.YtpiincgiakkljaaGreatDoor
