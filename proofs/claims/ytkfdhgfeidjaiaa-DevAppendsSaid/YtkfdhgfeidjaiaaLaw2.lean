/-
  Part of the proof of: The law DevAppends returns true at every input and leaves its arguments as they were. Conditions: those of the given row alone; no hypothesis is added.
-/
import Derived.Test.YtkfdhgfeidjaiaaLaw1
import Derived.Test.YtkfdhgfeidjaiaaIce4
import Derived.Test.YtkfdhgfeidjaiaaIce5
import Derived.Test.YtkfdhgfeidjaiaaRows
section
set_option linter.unusedVariables false
set_option linter.unusedSimpArgs false

set_option maxRecDepth 20000
namespace Go.Ice.S1
open Go.Proofs
theorem fnOk30 : FnOk Try.prog 30 := ⟨Try.f30, rfl, by decide, rfl⟩
def L10 : List (Nat × FSpec) := (30, S30) :: L9
theorem Γ10 : ΓOk Try.prog (lkG L10) := (Γ9).cons fnOk30 ok30
def S12 : FSpec where
  D := Dev
  pre _ := True
  args d := [.agg (devC d), .agg (devC d)]
  hin _ := []
  res _ := .e (.bool true)
  hout _ := []
  lend := true
  lends := fun _ d _ => ⟨trivial, fun i B h => by cases h⟩
theorem ok12 : S12.Ok Try.prog 12 := by
  refine FSpec.okN [] (fn := Try.f12) (c := Try.f12.body.getD .skip) TOk_T mixed Γ10 rfl rfl (fun d => rfl) ?_
  intro (d : Dev) hp hf hh
  have hf2 : d.cache.length ≤ 140737488355328 := hf.1.2.1.1
  have hf3 : d.vols.length ≤ 140737488355328 := hf.1.2.2.1.1
  conv => whnf
  repeat (first | (refine And.intro ?_ ?_; rotate_left; conv => whnf) | (refine .inl (And.intro ?_ ?_); rotate_left; conv => whnf))
  refine ⟨d.safe, ?_⟩
  conv => whnf
  repeat (first | (refine And.intro ?_ ?_; rotate_left; conv => whnf) | (refine .inl (And.intro ?_ ?_); rotate_left; conv => whnf))
  intro hr
  conv => whnf
  repeat (first | (refine And.intro ?_ ?_; rotate_left; conv => whnf) | (refine .inl (And.intro ?_ ?_); rotate_left; conv => whnf))
  refine ⟨fun h => by simp at h, fun h => ?_⟩
  conv => whnf
  refine ⟨{ i : Nat // i ≤ d.cache.length }, [2, 3], fun ⟨i, _⟩ => [(5, .int .i64 (i : Int))], fun _ => [], fun ⟨i, _⟩ => d.cache.length - i, ⟨⟨0, by omega⟩, ?_⟩, ?_⟩
  · conv => whnf
    repeat (first | (refine And.intro ?_ ?_; rotate_left; conv => whnf) | (refine .inl (And.intro ?_ ?_); rotate_left; conv => whnf))
    all_goals try (first | with_reducible rfl | with_reducible exact NC.Eqv.refl _ | exact NC.Eqv.refl _ | exact trivial | with_reducible exact (fun _ _ _ _ => NC.Eqv.refl _) | exact (fun _ _ _ _ => NC.Eqv.refl _) | (refine Ob.mk ?_; first | with_reducible rfl | omega | (dsimp only; omega) | rfl | exact trivial | (refine i64_of ?_ ?_ <;> omega) | (simp only [tB, Nat.zero_add, Int.toNat_natCast, true_and, and_true]; done) | (simp only [tB, Nat.zero_add, Int.toNat_natCast, true_and, and_true]; omega) | (intro _; first | omega | exact trivial | (refine i64_of ?_ ?_ <;> omega)) | exact ⟨rfl, fun _ _ => trivial⟩ | exact (fun _ => ⟨rfl, fun _ _ => trivial⟩) | ((repeat' (apply And.intro)) <;> first | rfl | exact trivial | (simp only [tB, Nat.zero_add, Int.toNat_natCast, true_and, and_true]; omega) | omega)) | omega | ((repeat' (apply And.intro)) <;> first | rfl | exact trivial | (simp only [tB, Nat.zero_add, Int.toNat_natCast, true_and, and_true]; omega) | omega | exact .inl rfl) | ((conv => whnf); (repeat' (apply And.intro)) <;> first | rfl | exact Ob.mk rfl | exact Ob.mk trivial))
  rintro ⟨i, hi⟩
  conv => whnf
  refine ⟨fun h => ?_, fun h => ?_⟩
  · have h : (i : Int) < d.cache.length := of_decide_eq_true h
    conv => whnf
    repeat (first | (refine And.intro ?_ ?_; rotate_left; conv => whnf) | (refine .inl (And.intro ?_ ?_); rotate_left; conv => whnf))
    refine ⟨fun h2 => by simp at h2, fun h2 => ?_⟩
    conv => whnf
    repeat (first | (refine And.intro ?_ ?_; rotate_left; conv => whnf) | (refine .inl (And.intro ?_ ?_); rotate_left; conv => whnf))
    refine ⟨⟨i + 1, by omega⟩, ?_⟩
    conv => whnf
    repeat (first | (refine And.intro ?_ ?_; rotate_left; conv => whnf) | (refine .inl (And.intro ?_ ?_); rotate_left; conv => whnf))
    all_goals try (first | with_reducible rfl | with_reducible exact NC.Eqv.refl _ | exact NC.Eqv.refl _ | exact trivial | with_reducible exact (fun _ _ _ _ => NC.Eqv.refl _) | exact (fun _ _ _ _ => NC.Eqv.refl _) | (refine Ob.mk ?_; first | with_reducible rfl | omega | (dsimp only; omega) | rfl | exact trivial | (refine i64_of ?_ ?_ <;> omega) | (simp only [tB, Nat.zero_add, Int.toNat_natCast, true_and, and_true]; done) | (simp only [tB, Nat.zero_add, Int.toNat_natCast, true_and, and_true]; omega) | (intro _; first | omega | exact trivial | (refine i64_of ?_ ?_ <;> omega)) | exact ⟨rfl, fun _ _ => trivial⟩ | exact (fun _ => ⟨rfl, fun _ _ => trivial⟩) | ((repeat' (apply And.intro)) <;> first | rfl | exact trivial | (simp only [tB, Nat.zero_add, Int.toNat_natCast, true_and, and_true]; omega) | omega)) | omega | ((repeat' (apply And.intro)) <;> first | rfl | exact trivial | (simp only [tB, Nat.zero_add, Int.toNat_natCast, true_and, and_true]; omega) | omega | exact .inl rfl) | ((conv => whnf); (repeat' (apply And.intro)) <;> first | rfl | exact Ob.mk rfl | exact Ob.mk trivial))

  conv => whnf
  refine ⟨{ i : Nat // i ≤ d.vols.length }, [2, 3], fun ⟨i, _⟩ => [(6, .int .i64 (i : Int))], fun _ => [], fun ⟨i, _⟩ => d.vols.length - i, ⟨⟨0, by omega⟩, ?_⟩, ?_⟩
  · conv => whnf
    repeat (first | (refine And.intro ?_ ?_; rotate_left; conv => whnf) | (refine .inl (And.intro ?_ ?_); rotate_left; conv => whnf))
    all_goals try (first | with_reducible rfl | with_reducible exact NC.Eqv.refl _ | exact NC.Eqv.refl _ | exact trivial | with_reducible exact (fun _ _ _ _ => NC.Eqv.refl _) | exact (fun _ _ _ _ => NC.Eqv.refl _) | (refine Ob.mk ?_; first | with_reducible rfl | omega | (dsimp only; omega) | rfl | exact trivial | (refine i64_of ?_ ?_ <;> omega) | (simp only [tB, Nat.zero_add, Int.toNat_natCast, true_and, and_true]; done) | (simp only [tB, Nat.zero_add, Int.toNat_natCast, true_and, and_true]; omega) | (intro _; first | omega | exact trivial | (refine i64_of ?_ ?_ <;> omega)) | exact ⟨rfl, fun _ _ => trivial⟩ | exact (fun _ => ⟨rfl, fun _ _ => trivial⟩) | ((repeat' (apply And.intro)) <;> first | rfl | exact trivial | (simp only [tB, Nat.zero_add, Int.toNat_natCast, true_and, and_true]; omega) | omega)) | omega | ((repeat' (apply And.intro)) <;> first | rfl | exact trivial | (simp only [tB, Nat.zero_add, Int.toNat_natCast, true_and, and_true]; omega) | omega | exact .inl rfl) | ((conv => whnf); (repeat' (apply And.intro)) <;> first | rfl | exact Ob.mk rfl | exact Ob.mk trivial))
  rintro ⟨i, hi⟩
  conv => whnf
  refine ⟨fun h => ?_, fun h => ?_⟩
  · have h : (i : Int) < d.vols.length := of_decide_eq_true h
    conv => whnf
    repeat (first | (refine And.intro ?_ ?_; rotate_left; conv => whnf) | (refine .inl (And.intro ?_ ?_); rotate_left; conv => whnf))
    refine ⟨fun h2 => by simp at h2, fun h2 => ?_⟩
    conv => whnf
    repeat (first | (refine And.intro ?_ ?_; rotate_left; conv => whnf) | (refine .inl (And.intro ?_ ?_); rotate_left; conv => whnf))
    refine ⟨⟨i + 1, by omega⟩, ?_⟩
    conv => whnf
    repeat (first | (refine And.intro ?_ ?_; rotate_left; conv => whnf) | (refine .inl (And.intro ?_ ?_); rotate_left; conv => whnf))
    all_goals try (first | with_reducible rfl | with_reducible exact NC.Eqv.refl _ | exact NC.Eqv.refl _ | exact trivial | with_reducible exact (fun _ _ _ _ => NC.Eqv.refl _) | exact (fun _ _ _ _ => NC.Eqv.refl _) | (refine Ob.mk ?_; first | with_reducible rfl | omega | (dsimp only; omega) | rfl | exact trivial | (refine i64_of ?_ ?_ <;> omega) | (simp only [tB, Nat.zero_add, Int.toNat_natCast, true_and, and_true]; done) | (simp only [tB, Nat.zero_add, Int.toNat_natCast, true_and, and_true]; omega) | (intro _; first | omega | exact trivial | (refine i64_of ?_ ?_ <;> omega)) | exact ⟨rfl, fun _ _ => trivial⟩ | exact (fun _ => ⟨rfl, fun _ _ => trivial⟩) | ((repeat' (apply And.intro)) <;> first | rfl | exact trivial | (simp only [tB, Nat.zero_add, Int.toNat_natCast, true_and, and_true]; omega) | omega)) | omega | ((repeat' (apply And.intro)) <;> first | rfl | exact trivial | (simp only [tB, Nat.zero_add, Int.toNat_natCast, true_and, and_true]; omega) | omega | exact .inl rfl) | ((conv => whnf); (repeat' (apply And.intro)) <;> first | rfl | exact Ob.mk rfl | exact Ob.mk trivial))

  conv => whnf
  repeat (first | (refine And.intro ?_ ?_; rotate_left; conv => whnf) | (refine .inl (And.intro ?_ ?_); rotate_left; conv => whnf))
  all_goals try (first | with_reducible rfl | with_reducible exact NC.Eqv.refl _ | exact NC.Eqv.refl _ | exact trivial | with_reducible exact (fun _ _ _ _ => NC.Eqv.refl _) | exact (fun _ _ _ _ => NC.Eqv.refl _) | (refine Ob.mk ?_; first | with_reducible rfl | omega | (dsimp only; omega) | rfl | exact trivial | (refine i64_of ?_ ?_ <;> omega) | (simp only [tB, Nat.zero_add, Int.toNat_natCast, true_and, and_true]; done) | (simp only [tB, Nat.zero_add, Int.toNat_natCast, true_and, and_true]; omega) | (intro _; first | omega | exact trivial | (refine i64_of ?_ ?_ <;> omega)) | exact ⟨rfl, fun _ _ => trivial⟩ | exact (fun _ => ⟨rfl, fun _ _ => trivial⟩) | ((repeat' (apply And.intro)) <;> first | rfl | exact trivial | (simp only [tB, Nat.zero_add, Int.toNat_natCast, true_and, and_true]; omega) | omega)) | omega | ((repeat' (apply And.intro)) <;> first | rfl | exact trivial | (simp only [tB, Nat.zero_add, Int.toNat_natCast, true_and, and_true]; omega) | omega | exact .inl rfl) | ((conv => whnf); (repeat' (apply And.intro)) <;> first | rfl | exact Ob.mk rfl | exact Ob.mk trivial))

end Go.Ice.S1
end

section
set_option linter.unusedVariables false
set_option linter.unusedSimpArgs false

set_option maxRecDepth 20000
namespace Go.Ice.S1
open Go.Proofs
theorem fnOk23 : FnOk Try.prog 23 := ⟨Try.f23, rfl, by decide, rfl⟩
theorem fnOk47 : FnOk Try.prog 47 := ⟨Try.f47, rfl, by decide, rfl⟩
theorem fnOk10 : FnOk Try.prog 10 := ⟨Try.f10, rfl, by decide, rfl⟩
def L11 : List (Nat × FSpec) := (23, S23) :: (47, SByt) :: (10, SByt) :: L10
theorem Γ11 : ΓOk Try.prog (lkG L11) := (((Γ10).cons fnOk10 ok10).cons fnOk47 ok47).cons fnOk23 ok23
def bU (bs : List UInt8) : NC := .uq 1 1 bs.length (bN bs)
def lN (l : List (List UInt8)) : Nat → Nat → NC := fun i _ => bU (l.getD i [])
def wN1 (w : Wr) : Nat → NC
  | 0 => .f (.int .i64 w.pos)
  | _ => bU w.data
def wN (l : List Wr) : Nat → Nat → NC := fun i j => wN1 (l.getD i default) j
def vN1 (v : Vol) : Nat → NC
  | 0 => bU v.data
  | 1 => .f (.int .i64 v.synced)
  | _ => .f (.bool v.gone)
def vN (l : List Vol) : Nat → Nat → NC := fun i j => vN1 (l.getD i default) j
def devR (d : Dev) : EV := .agg [.own 100 1 0 d.safe.length, .own 101 2 0 d.cache.length, .own 102 3 0 d.vols.length, .int .i64 d.fuel]
def devH (d : Dev) : List (Nat × Blk) := [(100, .arr 1 24 d.safe.length none (lN d.safe) none), (101, .arr 2 32 d.cache.length none (wN d.cache) none), (102, .arr 3 40 d.vols.length none (vN d.vols) none)]
theorem bU_nofr (bs : List UInt8) : (bU bs).nofr := fun _ _ _ _ => trivial
theorem devH_nofr (d : Dev) (i : Nat) (B : Blk) (h : lkH (devH d) i = some B) : B.nofr := by
  simp only [devH, lkH] at h
  split at h
  · injection h with h; subst h; exact fun _ _ _ _ => bU_nofr _
  split at h
  · injection h with h; subst h
    intro i _ j _
    show (wN1 (d.cache.getD i default) j).nofr
    unfold wN1; split
    · trivial
    · exact bU_nofr _
  split at h
  · injection h with h; subst h
    intro i _ j _
    show (vN1 (d.vols.getD i default) j).nofr
    unfold vN1; split
    · exact bU_nofr _
    · trivial
    · trivial
  · cases h
def S8 : FSpec where
  D := Dev
  pre _ := True
  args d := [.agg (devC d)]
  hin _ := []
  res d := .e (devR d)
  hout d := devH d
  lend := true
  lends := fun _ d _ => ⟨fun c hc => by
    simp only [List.mem_cons, List.not_mem_nil, or_false] at hc
    rcases hc with rfl | rfl | rfl | rfl <;> trivial, devH_nofr d⟩
/-- What is known of devices that stand in memory. -/
structure DevF (d : Dev) : Prop where
  s : d.safe.length * 24 ≤ 140737488355328
  c : d.cache.length * 32 ≤ 140737488355328
  v : d.vols.length * 40 ≤ 140737488355328
  sb : ∀ i, i < d.safe.length → (d.safe.getD i []).length ≤ 140737488355328
  cb : ∀ i, i < d.cache.length → (d.cache.getD i default).data.length ≤ 140737488355328
  vb : ∀ i, i < d.vols.length → (d.vols.getD i default).data.length ≤ 140737488355328
theorem devF {d : Dev} (h : cellsFacts (devC d)) : DevF d := by
  refine ⟨h.1.2.1, h.2.1.2.1, h.2.2.1.2.1, fun i hi => (h.1.2.2 i hi 0 (by decide)).1, fun i hi => (h.2.1.2.2 i hi 1 (by decide)).1, fun i hi => (h.2.2.1.2.2 i hi 0 (by decide)).1⟩
theorem joined1_pre {b : List UInt8} (h : b.length ≤ 140737488355328) : ([b] : List (List UInt8)).flatten.length ≤ 140737488355328 := by simpa using h
theorem lF_one (b : List UInt8) (x : FC) (h : x = bSl b) : (FC.sl 1 24 1 fun i j => (tabG (tabEl 1 [.f x] 1) (0 + i) j).unf).Eqv (FC.sl 1 24 1 (lF [b])) := by
  refine ⟨rfl, rfl, rfl, fun i hi j hj => ?_⟩
  have e1 : i = 0 := by omega
  have e2 : j = 0 := by omega
  subst e1 e2 h
  exact FC.Eqv.refl _
theorem lF_one' (b : List UInt8) (x : FC) (h : x = bSl b) : (FC.sl 1 24 1 fun i j => (tabG (tabEl 1 [.f x] 1) (0 + i) j).unf).Eqv (FC.sl 1 24 [b].length (lF [b])) := lF_one b x h
theorem flat_bU (b : List UInt8) : (NC.uq 1 1 ([b] : List (List UInt8)).flatten.length (bN ([b] : List (List UInt8)).flatten)).Eqv (bU b) := by
  have e : ([b] : List (List UInt8)).flatten = b := by simp
  rw [e]
  exact NC.Eqv.refl _
theorem one_bU (b : List UInt8) (k : Nat) {j : Nat} (hj : j < 1) : (tabG (tabEl 1 [NC.uq 1 1 ([b] : List (List UInt8)).flatten.length (bN ([b] : List (List UInt8)).flatten)] 1) (0 + 0) j).Eqv (bU b) := by
  have : j = 0 := by omega
  subst this
  have e : ([b] : List (List UInt8)).flatten = b := by simp
  rw [e]
  exact NC.Eqv.refl _
set_option maxHeartbeats 1000000 in
theorem ok8 : S8.Ok Try.prog 8 := by
  refine FSpec.okN [] (fn := Try.f8) (c := Try.f8.body.getD .skip) TOk_T mixed Γ11 rfl rfl (fun d => rfl) ?_
  intro (d : Dev) hp hf hh
  have F := devF hf.1
  have F1 := F.s
  have F2 := F.c
  have F3 := F.v
  conv => whnf
  refine ⟨{ i : Nat // i ≤ d.safe.length }, [1, 2, 3], fun ⟨i, _⟩ => [(4, .int .i64 (i : Int))], fun ⟨i, _⟩ => [(280, .var [.own 120 1 0 i, .nil, .nil, .int .i64 d.fuel]), (120, .arr 1 24 i none (lN d.safe) none)], fun ⟨i, _⟩ => d.safe.length - i, ⟨⟨0, by omega⟩, ?_⟩, ?_⟩
  · conv => whnf
    repeat (first | (refine And.intro ?_ ?_; rotate_left; conv => whnf) | (refine .inl (And.intro ?_ ?_); rotate_left; conv => whnf))
    all_goals try (first | with_reducible rfl | with_reducible exact NC.Eqv.refl _ | exact NC.Eqv.refl _ | exact trivial | with_reducible exact (fun _ _ _ _ => NC.Eqv.refl _) | exact (fun _ _ _ _ => NC.Eqv.refl _) | (refine Ob.mk ?_; first | with_reducible rfl | omega | (dsimp only; omega) | rfl | exact trivial | (refine i64_of ?_ ?_ <;> omega) | (simp only [tB, Nat.zero_add, Int.toNat_natCast, true_and, and_true]; done) | (simp only [tB, Nat.zero_add, Int.toNat_natCast, true_and, and_true]; omega) | (intro _; first | omega | exact trivial | (refine i64_of ?_ ?_ <;> omega)) | exact ⟨rfl, fun _ _ => trivial⟩ | exact (fun _ => ⟨rfl, fun _ _ => trivial⟩) | ((repeat' (apply And.intro)) <;> first | rfl | exact trivial | (simp only [tB, Nat.zero_add, Int.toNat_natCast, true_and, and_true]; omega) | omega)) | omega | ((repeat' (apply And.intro)) <;> first | rfl | exact trivial | (simp only [tB, Nat.zero_add, Int.toNat_natCast, true_and, and_true]; omega) | omega | exact .inl rfl) | ((conv => whnf); (repeat' (apply And.intro)) <;> first | rfl | exact Ob.mk rfl | exact Ob.mk trivial))
  rintro ⟨i, hi⟩
  conv => whnf
  refine ⟨fun h => ?_, fun h => ?_⟩
  · have h : (i : Int) < d.safe.length := of_decide_eq_true h
    conv => whnf
    repeat (first | (refine And.intro ?_ ?_; rotate_left; conv => whnf) | (refine .inl (And.intro ?_ ?_); rotate_left; conv => whnf))
    refine ⟨[d.safe.getD i []], ?_⟩
    conv => whnf
    repeat (first | (refine And.intro ?_ ?_; rotate_left; conv => whnf) | (refine .inl (And.intro ?_ ?_); rotate_left; conv => whnf))
    intro hr
    conv => whnf
    repeat (first | (refine And.intro ?_ ?_; rotate_left; conv => whnf) | (refine .inl (And.intro ?_ ?_); rotate_left; conv => whnf))
    refine ⟨⟨i + 1, by omega⟩, ?_⟩
    conv => whnf
    repeat (first | (refine And.intro ?_ ?_; rotate_left; conv => whnf) | (refine .inl (And.intro ?_ ?_); rotate_left; conv => whnf))
    all_goals try (first | with_reducible rfl | with_reducible exact NC.Eqv.refl _ | exact NC.Eqv.refl _ | exact trivial | with_reducible exact (fun _ _ _ _ => NC.Eqv.refl _) | exact (fun _ _ _ _ => NC.Eqv.refl _) | (refine Ob.mk ?_; first | with_reducible rfl | omega | (dsimp only; omega) | rfl | exact trivial | (refine i64_of ?_ ?_ <;> omega) | (simp only [tB, Nat.zero_add, Int.toNat_natCast, true_and, and_true]; done) | (simp only [tB, Nat.zero_add, Int.toNat_natCast, true_and, and_true]; omega) | (intro _; first | omega | exact trivial | (refine i64_of ?_ ?_ <;> omega)) | exact ⟨rfl, fun _ _ => trivial⟩ | exact (fun _ => ⟨rfl, fun _ _ => trivial⟩) | ((repeat' (apply And.intro)) <;> first | rfl | exact trivial | (simp only [tB, Nat.zero_add, Int.toNat_natCast, true_and, and_true]; omega) | omega)) | omega | ((repeat' (apply And.intro)) <;> first | rfl | exact trivial | (simp only [tB, Nat.zero_add, Int.toNat_natCast, true_and, and_true]; omega) | omega | exact .inl rfl) | ((conv => whnf); (repeat' (apply And.intro)) <;> first | rfl | exact Ob.mk rfl | exact Ob.mk trivial))
    · exact ⟨joined1_pre (F.sb i (by omega))⟩
    · exact ⟨rfl, Nat.le_refl _, lF_one' _ _ rfl⟩
    · refine app_one fun j hj => ?_
      exact one_bU _ 0 hj
  have h : ¬ (i : Int) < d.safe.length := of_decide_eq_false h
  have e : i = d.safe.length := by omega
  subst e
  conv => whnf
  repeat (first | (refine And.intro ?_ ?_; rotate_left; conv => whnf) | (refine .inl (And.intro ?_ ?_); rotate_left; conv => whnf))
  refine ⟨{ i : Nat // i ≤ d.cache.length }, [1, 2, 3], fun ⟨i, _⟩ => [(6, .int .i64 (i : Int))], fun ⟨i, _⟩ => [(280, .var [.own 120 1 0 d.safe.length, .own 121 2 0 i, .nil, .int .i64 d.fuel]), (121, .arr 2 32 i none (wN d.cache) none)], fun ⟨i, _⟩ => d.cache.length - i, ⟨⟨0, by omega⟩, ?_⟩, ?_⟩
  · conv => whnf
    repeat (first | (refine And.intro ?_ ?_; rotate_left; conv => whnf) | (refine .inl (And.intro ?_ ?_); rotate_left; conv => whnf))
    all_goals try (first | with_reducible rfl | with_reducible exact NC.Eqv.refl _ | exact NC.Eqv.refl _ | exact trivial | with_reducible exact (fun _ _ _ _ => NC.Eqv.refl _) | exact (fun _ _ _ _ => NC.Eqv.refl _) | (refine Ob.mk ?_; first | with_reducible rfl | omega | (dsimp only; omega) | rfl | exact trivial | (refine i64_of ?_ ?_ <;> omega) | (simp only [tB, Nat.zero_add, Int.toNat_natCast, true_and, and_true]; done) | (simp only [tB, Nat.zero_add, Int.toNat_natCast, true_and, and_true]; omega) | (intro _; first | omega | exact trivial | (refine i64_of ?_ ?_ <;> omega)) | exact ⟨rfl, fun _ _ => trivial⟩ | exact (fun _ => ⟨rfl, fun _ _ => trivial⟩) | ((repeat' (apply And.intro)) <;> first | rfl | exact trivial | (simp only [tB, Nat.zero_add, Int.toNat_natCast, true_and, and_true]; omega) | omega)) | omega | ((repeat' (apply And.intro)) <;> first | rfl | exact trivial | (simp only [tB, Nat.zero_add, Int.toNat_natCast, true_and, and_true]; omega) | omega | exact .inl rfl) | ((conv => whnf); (repeat' (apply And.intro)) <;> first | rfl | exact Ob.mk rfl | exact Ob.mk trivial))

  rintro ⟨i, hi⟩
  conv => whnf
  refine ⟨fun h => ?_, fun h => ?_⟩
  · have h : (i : Int) < d.cache.length := of_decide_eq_true h
    conv => whnf
    repeat (first | (refine And.intro ?_ ?_; rotate_left; conv => whnf) | (refine .inl (And.intro ?_ ?_); rotate_left; conv => whnf))
    refine ⟨[(d.cache.getD i default).data], ?_⟩
    conv => whnf
    repeat (first | (refine And.intro ?_ ?_; rotate_left; conv => whnf) | (refine .inl (And.intro ?_ ?_); rotate_left; conv => whnf))
    intro hr
    conv => whnf
    repeat (first | (refine And.intro ?_ ?_; rotate_left; conv => whnf) | (refine .inl (And.intro ?_ ?_); rotate_left; conv => whnf))
    refine ⟨⟨i + 1, by omega⟩, ?_⟩
    conv => whnf
    repeat (first | (refine And.intro ?_ ?_; rotate_left; conv => whnf) | (refine .inl (And.intro ?_ ?_); rotate_left; conv => whnf))
    all_goals try (first | with_reducible rfl | with_reducible exact NC.Eqv.refl _ | exact NC.Eqv.refl _ | exact trivial | with_reducible exact (fun _ _ _ _ => NC.Eqv.refl _) | exact (fun _ _ _ _ => NC.Eqv.refl _) | (refine Ob.mk ?_; first | with_reducible rfl | omega | (dsimp only; omega) | rfl | exact trivial | (refine i64_of ?_ ?_ <;> omega) | (simp only [tB, Nat.zero_add, Int.toNat_natCast, true_and, and_true]; done) | (simp only [tB, Nat.zero_add, Int.toNat_natCast, true_and, and_true]; omega) | (intro _; first | omega | exact trivial | (refine i64_of ?_ ?_ <;> omega)) | exact ⟨rfl, fun _ _ => trivial⟩ | exact (fun _ => ⟨rfl, fun _ _ => trivial⟩) | ((repeat' (apply And.intro)) <;> first | rfl | exact trivial | (simp only [tB, Nat.zero_add, Int.toNat_natCast, true_and, and_true]; omega) | omega)) | omega | ((repeat' (apply And.intro)) <;> first | rfl | exact trivial | (simp only [tB, Nat.zero_add, Int.toNat_natCast, true_and, and_true]; omega) | omega | exact .inl rfl) | ((conv => whnf); (repeat' (apply And.intro)) <;> first | rfl | exact Ob.mk rfl | exact Ob.mk trivial))
    · exact ⟨joined1_pre (F.cb i (by omega))⟩
    · exact ⟨rfl, Nat.le_refl _, lF_one' _ _ rfl⟩
    · refine app_one fun j hj => ?_
      have hj : j < 2 := hj
      match j, hj with
      | 0, _ => exact NC.Eqv.refl _
      | 1, _ => exact flat_bU _
  have h : ¬ (i : Int) < d.cache.length := of_decide_eq_false h
  have e : i = d.cache.length := by omega
  subst e
  conv => whnf
  repeat (first | (refine And.intro ?_ ?_; rotate_left; conv => whnf) | (refine .inl (And.intro ?_ ?_); rotate_left; conv => whnf))
  refine ⟨{ i : Nat // i ≤ d.vols.length }, [1, 2, 3], fun ⟨i, _⟩ => [(8, .int .i64 (i : Int))], fun ⟨i, _⟩ => [(280, .var [.own 120 1 0 d.safe.length, .own 121 2 0 d.cache.length, .own 122 3 0 i, .int .i64 d.fuel]), (122, .arr 3 40 i none (vN d.vols) none)], fun ⟨i, _⟩ => d.vols.length - i, ⟨⟨0, by omega⟩, ?_⟩, ?_⟩
  · conv => whnf
    repeat (first | (refine And.intro ?_ ?_; rotate_left; conv => whnf) | (refine .inl (And.intro ?_ ?_); rotate_left; conv => whnf))
    all_goals try (first | with_reducible rfl | with_reducible exact NC.Eqv.refl _ | exact NC.Eqv.refl _ | exact trivial | with_reducible exact (fun _ _ _ _ => NC.Eqv.refl _) | exact (fun _ _ _ _ => NC.Eqv.refl _) | (refine Ob.mk ?_; first | with_reducible rfl | omega | (dsimp only; omega) | rfl | exact trivial | (refine i64_of ?_ ?_ <;> omega) | (simp only [tB, Nat.zero_add, Int.toNat_natCast, true_and, and_true]; done) | (simp only [tB, Nat.zero_add, Int.toNat_natCast, true_and, and_true]; omega) | (intro _; first | omega | exact trivial | (refine i64_of ?_ ?_ <;> omega)) | exact ⟨rfl, fun _ _ => trivial⟩ | exact (fun _ => ⟨rfl, fun _ _ => trivial⟩) | ((repeat' (apply And.intro)) <;> first | rfl | exact trivial | (simp only [tB, Nat.zero_add, Int.toNat_natCast, true_and, and_true]; omega) | omega)) | omega | ((repeat' (apply And.intro)) <;> first | rfl | exact trivial | (simp only [tB, Nat.zero_add, Int.toNat_natCast, true_and, and_true]; omega) | omega | exact .inl rfl) | ((conv => whnf); (repeat' (apply And.intro)) <;> first | rfl | exact Ob.mk rfl | exact Ob.mk trivial))
  rintro ⟨i, hi⟩
  conv => whnf
  refine ⟨fun h => ?_, fun h => ?_⟩
  · have h : (i : Int) < d.vols.length := of_decide_eq_true h
    conv => whnf
    repeat (first | (refine And.intro ?_ ?_; rotate_left; conv => whnf) | (refine .inl (And.intro ?_ ?_); rotate_left; conv => whnf))
    refine ⟨[(d.vols.getD i default).data], ?_⟩
    conv => whnf
    repeat (first | (refine And.intro ?_ ?_; rotate_left; conv => whnf) | (refine .inl (And.intro ?_ ?_); rotate_left; conv => whnf))
    intro hr
    conv => whnf
    repeat (first | (refine And.intro ?_ ?_; rotate_left; conv => whnf) | (refine .inl (And.intro ?_ ?_); rotate_left; conv => whnf))
    refine ⟨⟨i + 1, by omega⟩, ?_⟩
    conv => whnf
    repeat (first | (refine And.intro ?_ ?_; rotate_left; conv => whnf) | (refine .inl (And.intro ?_ ?_); rotate_left; conv => whnf))
    all_goals try (first | with_reducible rfl | with_reducible exact NC.Eqv.refl _ | exact NC.Eqv.refl _ | exact trivial | with_reducible exact (fun _ _ _ _ => NC.Eqv.refl _) | exact (fun _ _ _ _ => NC.Eqv.refl _) | (refine Ob.mk ?_; first | with_reducible rfl | omega | (dsimp only; omega) | rfl | exact trivial | (refine i64_of ?_ ?_ <;> omega) | (simp only [tB, Nat.zero_add, Int.toNat_natCast, true_and, and_true]; done) | (simp only [tB, Nat.zero_add, Int.toNat_natCast, true_and, and_true]; omega) | (intro _; first | omega | exact trivial | (refine i64_of ?_ ?_ <;> omega)) | exact ⟨rfl, fun _ _ => trivial⟩ | exact (fun _ => ⟨rfl, fun _ _ => trivial⟩) | ((repeat' (apply And.intro)) <;> first | rfl | exact trivial | (simp only [tB, Nat.zero_add, Int.toNat_natCast, true_and, and_true]; omega) | omega)) | omega | ((repeat' (apply And.intro)) <;> first | rfl | exact trivial | (simp only [tB, Nat.zero_add, Int.toNat_natCast, true_and, and_true]; omega) | omega | exact .inl rfl) | ((conv => whnf); (repeat' (apply And.intro)) <;> first | rfl | exact Ob.mk rfl | exact Ob.mk trivial))
    · exact ⟨joined1_pre (F.vb i (by omega))⟩
    · exact ⟨rfl, Nat.le_refl _, lF_one' _ _ rfl⟩
    · refine app_one fun j hj => ?_
      have hj : j < 3 := hj
      match j, hj with
      | 0, _ => exact flat_bU _
      | 1, _ => exact NC.Eqv.refl _
      | 2, _ => exact NC.Eqv.refl _
  have h : ¬ (i : Int) < d.vols.length := of_decide_eq_false h
  have e : i = d.vols.length := by omega
  subst e
  conv => whnf
  repeat (first | (refine And.intro ?_ ?_; rotate_left; conv => whnf) | (refine .inl (And.intro ?_ ?_); rotate_left; conv => whnf))
  all_goals try (first | with_reducible rfl | with_reducible exact NC.Eqv.refl _ | exact NC.Eqv.refl _ | exact trivial | with_reducible exact (fun _ _ _ _ => NC.Eqv.refl _) | exact (fun _ _ _ _ => NC.Eqv.refl _) | (refine Ob.mk ?_; first | with_reducible rfl | omega | (dsimp only; omega) | rfl | exact trivial | (refine i64_of ?_ ?_ <;> omega) | (simp only [tB, Nat.zero_add, Int.toNat_natCast, true_and, and_true]; done) | (simp only [tB, Nat.zero_add, Int.toNat_natCast, true_and, and_true]; omega) | (intro _; first | omega | exact trivial | (refine i64_of ?_ ?_ <;> omega)) | exact ⟨rfl, fun _ _ => trivial⟩ | exact (fun _ => ⟨rfl, fun _ _ => trivial⟩) | ((repeat' (apply And.intro)) <;> first | rfl | exact trivial | (simp only [tB, Nat.zero_add, Int.toNat_natCast, true_and, and_true]; omega) | omega)) | omega | ((repeat' (apply And.intro)) <;> first | rfl | exact trivial | (simp only [tB, Nat.zero_add, Int.toNat_natCast, true_and, and_true]; omega) | omega | exact .inl rfl) | ((conv => whnf); (repeat' (apply And.intro)) <;> first | rfl | exact Ob.mk rfl | exact Ob.mk trivial))

end Go.Ice.S1
end

section
set_option linter.unusedVariables false
set_option linter.unusedSimpArgs false
set_option maxRecDepth 20000
namespace Go.Ice.S1
open Go.Proofs
set_option maxHeartbeats 1000000 in
theorem ok88 : S8.Ok Try.prog 88 := by
  refine FSpec.okN [] (fn := Try.f88) (c := Try.f88.body.getD .skip) TOk_T mixed Γ11 rfl rfl (fun d => rfl) ?_
  intro (d : Dev) hp hf hh
  have F := devF hf.1
  have F1 := F.s
  have F2 := F.c
  have F3 := F.v
  conv => whnf
  refine ⟨{ i : Nat // i ≤ d.safe.length }, [1, 2, 3, 14, 15], fun ⟨i, _⟩ => [(16, .int .i64 (i : Int))], fun ⟨i, _⟩ => [(280, .var [.own 120 1 0 i, .nil, .nil, .int .i64 d.fuel]), (120, .arr 1 24 i none (lN d.safe) none)], fun ⟨i, _⟩ => d.safe.length - i, ⟨⟨0, by omega⟩, ?_⟩, ?_⟩
  · conv => whnf
    repeat (first | (refine And.intro ?_ ?_; rotate_left; conv => whnf) | (refine .inl (And.intro ?_ ?_); rotate_left; conv => whnf))
    all_goals try (first | with_reducible rfl | with_reducible exact NC.Eqv.refl _ | exact NC.Eqv.refl _ | exact trivial | with_reducible exact (fun _ _ _ _ => NC.Eqv.refl _) | exact (fun _ _ _ _ => NC.Eqv.refl _) | (refine Ob.mk ?_; first | with_reducible rfl | omega | (dsimp only; omega) | rfl | exact trivial | (refine i64_of ?_ ?_ <;> omega) | (simp only [tB, Nat.zero_add, Int.toNat_natCast, true_and, and_true]; done) | (simp only [tB, Nat.zero_add, Int.toNat_natCast, true_and, and_true]; omega) | (intro _; first | omega | exact trivial | (refine i64_of ?_ ?_ <;> omega)) | exact ⟨rfl, fun _ _ => trivial⟩ | exact (fun _ => ⟨rfl, fun _ _ => trivial⟩) | ((repeat' (apply And.intro)) <;> first | rfl | exact trivial | (simp only [tB, Nat.zero_add, Int.toNat_natCast, true_and, and_true]; omega) | omega)) | omega | ((repeat' (apply And.intro)) <;> first | rfl | exact trivial | (simp only [tB, Nat.zero_add, Int.toNat_natCast, true_and, and_true]; omega) | omega | exact .inl rfl) | ((conv => whnf); (repeat' (apply And.intro)) <;> first | rfl | exact Ob.mk rfl | exact Ob.mk trivial))
  rintro ⟨i, hi⟩
  conv => whnf
  refine ⟨fun h => ?_, fun h => ?_⟩
  · have h : (i : Int) < d.safe.length := of_decide_eq_true h
    conv => whnf
    repeat (first | (refine And.intro ?_ ?_; rotate_left; conv => whnf) | (refine .inl (And.intro ?_ ?_); rotate_left; conv => whnf))
    refine ⟨d.safe.getD i [], ?_⟩
    conv => whnf
    repeat (first | (refine And.intro ?_ ?_; rotate_left; conv => whnf) | (refine .inl (And.intro ?_ ?_); rotate_left; conv => whnf))
    intro hr
    conv => whnf
    repeat (first | (refine And.intro ?_ ?_; rotate_left; conv => whnf) | (refine .inl (And.intro ?_ ?_); rotate_left; conv => whnf))
    refine ⟨⟨i + 1, by omega⟩, ?_⟩
    conv => whnf
    repeat (first | (refine And.intro ?_ ?_; rotate_left; conv => whnf) | (refine .inl (And.intro ?_ ?_); rotate_left; conv => whnf))
    all_goals try (first | with_reducible rfl | with_reducible exact NC.Eqv.refl _ | exact NC.Eqv.refl _ | exact trivial | with_reducible exact (fun _ _ _ _ => NC.Eqv.refl _) | exact (fun _ _ _ _ => NC.Eqv.refl _) | (refine Ob.mk ?_; first | with_reducible rfl | omega | (dsimp only; omega) | rfl | exact trivial | (refine i64_of ?_ ?_ <;> omega) | (simp only [tB, Nat.zero_add, Int.toNat_natCast, true_and, and_true]; done) | (simp only [tB, Nat.zero_add, Int.toNat_natCast, true_and, and_true]; omega) | (intro _; first | omega | exact trivial | (refine i64_of ?_ ?_ <;> omega)) | exact ⟨rfl, fun _ _ => trivial⟩ | exact (fun _ => ⟨rfl, fun _ _ => trivial⟩) | ((repeat' (apply And.intro)) <;> first | rfl | exact trivial | (simp only [tB, Nat.zero_add, Int.toNat_natCast, true_and, and_true]; omega) | omega)) | omega | ((repeat' (apply And.intro)) <;> first | rfl | exact trivial | (simp only [tB, Nat.zero_add, Int.toNat_natCast, true_and, and_true]; omega) | omega | exact .inl rfl) | ((conv => whnf); (repeat' (apply And.intro)) <;> first | rfl | exact Ob.mk rfl | exact Ob.mk trivial))
    · refine app_one fun j hj => ?_
      have hj : j < 1 := hj
      match j, hj with
      | 0, _ => exact NC.Eqv.refl _
  have h : ¬ (i : Int) < d.safe.length := of_decide_eq_false h
  have e : i = d.safe.length := by omega
  subst e
  conv => whnf
  repeat (first | (refine And.intro ?_ ?_; rotate_left; conv => whnf) | (refine .inl (And.intro ?_ ?_); rotate_left; conv => whnf))
  refine ⟨{ i : Nat // i ≤ d.cache.length }, [1, 2, 3, 29, 30], fun ⟨i, _⟩ => [(31, .int .i64 (i : Int))], fun ⟨i, _⟩ => [(280, .var [.own 120 1 0 d.safe.length, .own 121 2 0 i, .nil, .int .i64 d.fuel]), (121, .arr 2 32 i none (wN d.cache) none)], fun ⟨i, _⟩ => d.cache.length - i, ⟨⟨0, by omega⟩, ?_⟩, ?_⟩
  · conv => whnf
    repeat (first | (refine And.intro ?_ ?_; rotate_left; conv => whnf) | (refine .inl (And.intro ?_ ?_); rotate_left; conv => whnf))
    all_goals try (first | with_reducible rfl | with_reducible exact NC.Eqv.refl _ | exact NC.Eqv.refl _ | exact trivial | with_reducible exact (fun _ _ _ _ => NC.Eqv.refl _) | exact (fun _ _ _ _ => NC.Eqv.refl _) | (refine Ob.mk ?_; first | with_reducible rfl | omega | (dsimp only; omega) | rfl | exact trivial | (refine i64_of ?_ ?_ <;> omega) | (simp only [tB, Nat.zero_add, Int.toNat_natCast, true_and, and_true]; done) | (simp only [tB, Nat.zero_add, Int.toNat_natCast, true_and, and_true]; omega) | (intro _; first | omega | exact trivial | (refine i64_of ?_ ?_ <;> omega)) | exact ⟨rfl, fun _ _ => trivial⟩ | exact (fun _ => ⟨rfl, fun _ _ => trivial⟩) | ((repeat' (apply And.intro)) <;> first | rfl | exact trivial | (simp only [tB, Nat.zero_add, Int.toNat_natCast, true_and, and_true]; omega) | omega)) | omega | ((repeat' (apply And.intro)) <;> first | rfl | exact trivial | (simp only [tB, Nat.zero_add, Int.toNat_natCast, true_and, and_true]; omega) | omega | exact .inl rfl) | ((conv => whnf); (repeat' (apply And.intro)) <;> first | rfl | exact Ob.mk rfl | exact Ob.mk trivial))
  rintro ⟨i, hi⟩
  conv => whnf
  refine ⟨fun h => ?_, fun h => ?_⟩
  · have h : (i : Int) < d.cache.length := of_decide_eq_true h
    conv => whnf
    repeat (first | (refine And.intro ?_ ?_; rotate_left; conv => whnf) | (refine .inl (And.intro ?_ ?_); rotate_left; conv => whnf))
    refine ⟨(d.cache.getD i default).data, ?_⟩
    conv => whnf
    repeat (first | (refine And.intro ?_ ?_; rotate_left; conv => whnf) | (refine .inl (And.intro ?_ ?_); rotate_left; conv => whnf))
    intro hr
    conv => whnf
    repeat (first | (refine And.intro ?_ ?_; rotate_left; conv => whnf) | (refine .inl (And.intro ?_ ?_); rotate_left; conv => whnf))
    refine ⟨⟨i + 1, by omega⟩, ?_⟩
    conv => whnf
    repeat (first | (refine And.intro ?_ ?_; rotate_left; conv => whnf) | (refine .inl (And.intro ?_ ?_); rotate_left; conv => whnf))
    all_goals try (first | with_reducible rfl | with_reducible exact NC.Eqv.refl _ | exact NC.Eqv.refl _ | exact trivial | with_reducible exact (fun _ _ _ _ => NC.Eqv.refl _) | exact (fun _ _ _ _ => NC.Eqv.refl _) | (refine Ob.mk ?_; first | with_reducible rfl | omega | (dsimp only; omega) | rfl | exact trivial | (refine i64_of ?_ ?_ <;> omega) | (simp only [tB, Nat.zero_add, Int.toNat_natCast, true_and, and_true]; done) | (simp only [tB, Nat.zero_add, Int.toNat_natCast, true_and, and_true]; omega) | (intro _; first | omega | exact trivial | (refine i64_of ?_ ?_ <;> omega)) | exact ⟨rfl, fun _ _ => trivial⟩ | exact (fun _ => ⟨rfl, fun _ _ => trivial⟩) | ((repeat' (apply And.intro)) <;> first | rfl | exact trivial | (simp only [tB, Nat.zero_add, Int.toNat_natCast, true_and, and_true]; omega) | omega)) | omega | ((repeat' (apply And.intro)) <;> first | rfl | exact trivial | (simp only [tB, Nat.zero_add, Int.toNat_natCast, true_and, and_true]; omega) | omega | exact .inl rfl) | ((conv => whnf); (repeat' (apply And.intro)) <;> first | rfl | exact Ob.mk rfl | exact Ob.mk trivial))
    · refine app_one fun j hj => ?_
      have hj : j < 2 := hj
      match j, hj with
      | 0, _ => exact NC.Eqv.refl _
      | 1, _ => exact NC.Eqv.refl _
  have h : ¬ (i : Int) < d.cache.length := of_decide_eq_false h
  have e : i = d.cache.length := by omega
  subst e
  conv => whnf
  repeat (first | (refine And.intro ?_ ?_; rotate_left; conv => whnf) | (refine .inl (And.intro ?_ ?_); rotate_left; conv => whnf))
  refine ⟨{ i : Nat // i ≤ d.vols.length }, [1, 2, 3, 48, 49], fun ⟨i, _⟩ => [(50, .int .i64 (i : Int))], fun ⟨i, _⟩ => [(280, .var [.own 120 1 0 d.safe.length, .own 121 2 0 d.cache.length, .own 122 3 0 i, .int .i64 d.fuel]), (122, .arr 3 40 i none (vN d.vols) none)], fun ⟨i, _⟩ => d.vols.length - i, ⟨⟨0, by omega⟩, ?_⟩, ?_⟩
  · conv => whnf
    repeat (first | (refine And.intro ?_ ?_; rotate_left; conv => whnf) | (refine .inl (And.intro ?_ ?_); rotate_left; conv => whnf))
    all_goals try (first | with_reducible rfl | with_reducible exact NC.Eqv.refl _ | exact NC.Eqv.refl _ | exact trivial | with_reducible exact (fun _ _ _ _ => NC.Eqv.refl _) | exact (fun _ _ _ _ => NC.Eqv.refl _) | (refine Ob.mk ?_; first | with_reducible rfl | omega | (dsimp only; omega) | rfl | exact trivial | (refine i64_of ?_ ?_ <;> omega) | (simp only [tB, Nat.zero_add, Int.toNat_natCast, true_and, and_true]; done) | (simp only [tB, Nat.zero_add, Int.toNat_natCast, true_and, and_true]; omega) | (intro _; first | omega | exact trivial | (refine i64_of ?_ ?_ <;> omega)) | exact ⟨rfl, fun _ _ => trivial⟩ | exact (fun _ => ⟨rfl, fun _ _ => trivial⟩) | ((repeat' (apply And.intro)) <;> first | rfl | exact trivial | (simp only [tB, Nat.zero_add, Int.toNat_natCast, true_and, and_true]; omega) | omega)) | omega | ((repeat' (apply And.intro)) <;> first | rfl | exact trivial | (simp only [tB, Nat.zero_add, Int.toNat_natCast, true_and, and_true]; omega) | omega | exact .inl rfl) | ((conv => whnf); (repeat' (apply And.intro)) <;> first | rfl | exact Ob.mk rfl | exact Ob.mk trivial))
  rintro ⟨i, hi⟩
  conv => whnf
  refine ⟨fun h => ?_, fun h => ?_⟩
  · have h : (i : Int) < d.vols.length := of_decide_eq_true h
    conv => whnf
    repeat (first | (refine And.intro ?_ ?_; rotate_left; conv => whnf) | (refine .inl (And.intro ?_ ?_); rotate_left; conv => whnf))
    refine ⟨(d.vols.getD i default).data, ?_⟩
    conv => whnf
    repeat (first | (refine And.intro ?_ ?_; rotate_left; conv => whnf) | (refine .inl (And.intro ?_ ?_); rotate_left; conv => whnf))
    intro hr
    conv => whnf
    repeat (first | (refine And.intro ?_ ?_; rotate_left; conv => whnf) | (refine .inl (And.intro ?_ ?_); rotate_left; conv => whnf))
    refine ⟨⟨i + 1, by omega⟩, ?_⟩
    conv => whnf
    repeat (first | (refine And.intro ?_ ?_; rotate_left; conv => whnf) | (refine .inl (And.intro ?_ ?_); rotate_left; conv => whnf))
    all_goals try (first | with_reducible rfl | with_reducible exact NC.Eqv.refl _ | exact NC.Eqv.refl _ | exact trivial | with_reducible exact (fun _ _ _ _ => NC.Eqv.refl _) | exact (fun _ _ _ _ => NC.Eqv.refl _) | (refine Ob.mk ?_; first | with_reducible rfl | omega | (dsimp only; omega) | rfl | exact trivial | (refine i64_of ?_ ?_ <;> omega) | (simp only [tB, Nat.zero_add, Int.toNat_natCast, true_and, and_true]; done) | (simp only [tB, Nat.zero_add, Int.toNat_natCast, true_and, and_true]; omega) | (intro _; first | omega | exact trivial | (refine i64_of ?_ ?_ <;> omega)) | exact ⟨rfl, fun _ _ => trivial⟩ | exact (fun _ => ⟨rfl, fun _ _ => trivial⟩) | ((repeat' (apply And.intro)) <;> first | rfl | exact trivial | (simp only [tB, Nat.zero_add, Int.toNat_natCast, true_and, and_true]; omega) | omega)) | omega | ((repeat' (apply And.intro)) <;> first | rfl | exact trivial | (simp only [tB, Nat.zero_add, Int.toNat_natCast, true_and, and_true]; omega) | omega | exact .inl rfl) | ((conv => whnf); (repeat' (apply And.intro)) <;> first | rfl | exact Ob.mk rfl | exact Ob.mk trivial))
    · refine app_one fun j hj => ?_
      have hj : j < 3 := hj
      match j, hj with
      | 0, _ => exact NC.Eqv.refl _
      | 1, _ => exact NC.Eqv.refl _
      | 2, _ => exact NC.Eqv.refl _
  have h : ¬ (i : Int) < d.vols.length := of_decide_eq_false h
  have e : i = d.vols.length := by omega
  subst e
  conv => whnf
  repeat (first | (refine And.intro ?_ ?_; rotate_left; conv => whnf) | (refine .inl (And.intro ?_ ?_); rotate_left; conv => whnf))
  all_goals try (first | with_reducible rfl | with_reducible exact NC.Eqv.refl _ | exact NC.Eqv.refl _ | exact trivial | with_reducible exact (fun _ _ _ _ => NC.Eqv.refl _) | exact (fun _ _ _ _ => NC.Eqv.refl _) | (refine Ob.mk ?_; first | with_reducible rfl | omega | (dsimp only; omega) | rfl | exact trivial | (refine i64_of ?_ ?_ <;> omega) | (simp only [tB, Nat.zero_add, Int.toNat_natCast, true_and, and_true]; done) | (simp only [tB, Nat.zero_add, Int.toNat_natCast, true_and, and_true]; omega) | (intro _; first | omega | exact trivial | (refine i64_of ?_ ?_ <;> omega)) | exact ⟨rfl, fun _ _ => trivial⟩ | exact (fun _ => ⟨rfl, fun _ _ => trivial⟩) | ((repeat' (apply And.intro)) <;> first | rfl | exact trivial | (simp only [tB, Nat.zero_add, Int.toNat_natCast, true_and, and_true]; omega) | omega)) | omega | ((repeat' (apply And.intro)) <;> first | rfl | exact trivial | (simp only [tB, Nat.zero_add, Int.toNat_natCast, true_and, and_true]; omega) | omega | exact .inl rfl) | ((conv => whnf); (repeat' (apply And.intro)) <;> first | rfl | exact Ob.mk rfl | exact Ob.mk trivial))
end Go.Ice.S1
end

section
set_option linter.unusedVariables false
set_option linter.unusedSimpArgs false
set_option maxRecDepth 20000
namespace Go.Ice.S1
open Go.Proofs
theorem fnOk8 : FnOk Try.prog 8 := ⟨Try.f8, rfl, by decide, rfl⟩
theorem fnOk88 : FnOk Try.prog 88 := ⟨Try.f88, rfl, by decide, rfl⟩
theorem fnOk24 : FnOk Try.prog 24 := ⟨Try.f24, rfl, by decide, rfl⟩
theorem fnOk27 : FnOk Try.prog 27 := ⟨Try.f27, rfl, by decide, rfl⟩
theorem fnOk25 : FnOk Try.prog 25 := ⟨Try.f25, rfl, by decide, rfl⟩
theorem fnOk28 : FnOk Try.prog 28 := ⟨Try.f28, rfl, by decide, rfl⟩
def L12 : List (Nat × FSpec) := (8, S8) :: (88, S8) :: (24, S24) :: (27, S24) :: (25, S25) :: (28, S25) :: L11
theorem Γ12 : ΓOk Try.prog (lkG L12) := ((((((Γ11).cons fnOk28 ok28).cons fnOk25 ok25).cons fnOk27 ok27).cons fnOk24 ok24).cons fnOk88 ok88).cons fnOk8 ok8
def devNil : Dev := ⟨[], [], [], 0⟩
def devE (x : Dev × Int) : TV := .tup [devR x.1, .int .i64 x.2]
theorem devE_nofr (x : Dev × Int) : (devE x).nofr := by
  intro y hy
  simp only [List.mem_cons, List.not_mem_nil, or_false] at hy
  rcases hy with rfl | rfl
  · intro c hc
    simp only [List.mem_cons, List.not_mem_nil, or_false] at hc
    rcases hc with rfl | rfl | rfl | rfl <;> trivial
  · trivial
def spendD (d : Dev) : Dev × Int := if d.fuel = 0 then (devNil, 10) else ({ d with fuel := if 0 < d.fuel then d.fuel - 1 else d.fuel }, 0)
def S29 : FSpec where
  D := Dev
  pre _ := True
  args d := [.agg (devC d)]
  hin _ := []
  res d := devE (spendD d)
  hout d := devH (spendD d).1
  lend := true
  lends := fun _ d _ => ⟨devE_nofr _, devH_nofr _⟩
theorem ok29 : S29.Ok Try.prog 29 := by
  refine FSpec.okN [] (fn := Try.f29) (c := Try.f29.body.getD .skip) TOk_T mixed Γ12 rfl rfl (fun d => rfl) ?_
  intro (d : Dev) hp hf hh
  conv => whnf
  repeat (first | (refine And.intro ?_ ?_; rotate_left; conv => whnf) | (refine .inl (And.intro ?_ ?_); rotate_left; conv => whnf))
  refine ⟨fun h => ?_, fun h => ?_⟩
  · have h : d.fuel = 0 := by simpa using h
    have e : spendD d = (devNil, 10) := by simp [spendD, h]
    conv => whnf
    repeat (first | (refine And.intro ?_ ?_; rotate_left; conv => whnf) | (refine .inl (And.intro ?_ ?_); rotate_left; conv => whnf))
    all_goals (try rw [e])
    all_goals try (first | with_reducible rfl | with_reducible exact NC.Eqv.refl _ | exact NC.Eqv.refl _ | exact trivial | with_reducible exact (fun _ _ _ _ => NC.Eqv.refl _) | exact (fun _ _ _ _ => NC.Eqv.refl _) | (refine Ob.mk ?_; first | with_reducible rfl | omega | (dsimp only; omega) | rfl | exact trivial | (refine i64_of ?_ ?_ <;> omega) | (simp only [tB, Nat.zero_add, Int.toNat_natCast, true_and, and_true]; done) | (simp only [tB, Nat.zero_add, Int.toNat_natCast, true_and, and_true]; omega) | (intro _; first | omega | exact trivial | (refine i64_of ?_ ?_ <;> omega)) | exact ⟨rfl, fun _ _ => trivial⟩ | exact (fun _ => ⟨rfl, fun _ _ => trivial⟩) | ((repeat' (apply And.intro)) <;> first | rfl | exact trivial | (simp only [tB, Nat.zero_add, Int.toNat_natCast, true_and, and_true]; omega) | omega)) | omega | ((repeat' (apply And.intro)) <;> first | rfl | exact trivial | (simp only [tB, Nat.zero_add, Int.toNat_natCast, true_and, and_true]; omega) | omega | exact .inl rfl) | ((conv => whnf); (repeat' (apply And.intro)) <;> first | rfl | exact Ob.mk rfl | exact Ob.mk trivial))
  have h : ¬ d.fuel = 0 := by simpa using h
  conv => whnf
  repeat (first | (refine And.intro ?_ ?_; rotate_left; conv => whnf) | (refine .inl (And.intro ?_ ?_); rotate_left; conv => whnf))
  refine ⟨d, ?_⟩
  conv => whnf
  repeat (first | (refine And.intro ?_ ?_; rotate_left; conv => whnf) | (refine .inl (And.intro ?_ ?_); rotate_left; conv => whnf))
  intro hr
  conv => whnf
  repeat (first | (refine And.intro ?_ ?_; rotate_left; conv => whnf) | (refine .inl (And.intro ?_ ?_); rotate_left; conv => whnf))
  refine ⟨fun h2 => ?_, fun h2 => ?_⟩
  · have h2 : 0 < d.fuel := by simpa using h2
    have e : spendD d = ({ d with fuel := d.fuel - 1 }, 0) := by simp [spendD, h, h2]
    have := i64_facts hf.1.2.2.2.1
    conv => whnf
    repeat (first | (refine And.intro ?_ ?_; rotate_left; conv => whnf) | (refine .inl (And.intro ?_ ?_); rotate_left; conv => whnf))
    all_goals (try rw [e])
    all_goals try (first | with_reducible rfl | with_reducible exact NC.Eqv.refl _ | exact NC.Eqv.refl _ | exact trivial | with_reducible exact (fun _ _ _ _ => NC.Eqv.refl _) | exact (fun _ _ _ _ => NC.Eqv.refl _) | (refine Ob.mk ?_; first | with_reducible rfl | omega | (dsimp only; omega) | rfl | exact trivial | (refine i64_of ?_ ?_ <;> omega) | (simp only [tB, Nat.zero_add, Int.toNat_natCast, true_and, and_true]; done) | (simp only [tB, Nat.zero_add, Int.toNat_natCast, true_and, and_true]; omega) | (intro _; first | omega | exact trivial | (refine i64_of ?_ ?_ <;> omega)) | exact ⟨rfl, fun _ _ => trivial⟩ | exact (fun _ => ⟨rfl, fun _ _ => trivial⟩) | ((repeat' (apply And.intro)) <;> first | rfl | exact trivial | (simp only [tB, Nat.zero_add, Int.toNat_natCast, true_and, and_true]; omega) | omega)) | omega | ((repeat' (apply And.intro)) <;> first | rfl | exact trivial | (simp only [tB, Nat.zero_add, Int.toNat_natCast, true_and, and_true]; omega) | omega | exact .inl rfl) | ((conv => whnf); (repeat' (apply And.intro)) <;> first | rfl | exact Ob.mk rfl | exact Ob.mk trivial))
  · have h2 : ¬ 0 < d.fuel := by simpa using h2
    have e : spendD d = (d, 0) := by simp [spendD, h, h2]
    conv => whnf
    repeat (first | (refine And.intro ?_ ?_; rotate_left; conv => whnf) | (refine .inl (And.intro ?_ ?_); rotate_left; conv => whnf))
    all_goals (try rw [e])
    all_goals try (first | with_reducible rfl | with_reducible exact NC.Eqv.refl _ | exact NC.Eqv.refl _ | exact trivial | with_reducible exact (fun _ _ _ _ => NC.Eqv.refl _) | exact (fun _ _ _ _ => NC.Eqv.refl _) | (refine Ob.mk ?_; first | with_reducible rfl | omega | (dsimp only; omega) | rfl | exact trivial | (refine i64_of ?_ ?_ <;> omega) | (simp only [tB, Nat.zero_add, Int.toNat_natCast, true_and, and_true]; done) | (simp only [tB, Nat.zero_add, Int.toNat_natCast, true_and, and_true]; omega) | (intro _; first | omega | exact trivial | (refine i64_of ?_ ?_ <;> omega)) | exact ⟨rfl, fun _ _ => trivial⟩ | exact (fun _ => ⟨rfl, fun _ _ => trivial⟩) | ((repeat' (apply And.intro)) <;> first | rfl | exact trivial | (simp only [tB, Nat.zero_add, Int.toNat_natCast, true_and, and_true]; omega) | omega)) | omega | ((repeat' (apply And.intro)) <;> first | rfl | exact trivial | (simp only [tB, Nat.zero_add, Int.toNat_natCast, true_and, and_true]; omega) | omega | exact .inl rfl) | ((conv => whnf); (repeat' (apply And.intro)) <;> first | rfl | exact Ob.mk rfl | exact Ob.mk trivial))
  all_goals try (first | with_reducible rfl | with_reducible exact NC.Eqv.refl _ | exact NC.Eqv.refl _ | exact trivial | with_reducible exact (fun _ _ _ _ => NC.Eqv.refl _) | exact (fun _ _ _ _ => NC.Eqv.refl _) | (refine Ob.mk ?_; first | with_reducible rfl | omega | (dsimp only; omega) | rfl | exact trivial | (refine i64_of ?_ ?_ <;> omega) | (simp only [tB, Nat.zero_add, Int.toNat_natCast, true_and, and_true]; done) | (simp only [tB, Nat.zero_add, Int.toNat_natCast, true_and, and_true]; omega) | (intro _; first | omega | exact trivial | (refine i64_of ?_ ?_ <;> omega)) | exact ⟨rfl, fun _ _ => trivial⟩ | exact (fun _ => ⟨rfl, fun _ _ => trivial⟩) | ((repeat' (apply And.intro)) <;> first | rfl | exact trivial | (simp only [tB, Nat.zero_add, Int.toNat_natCast, true_and, and_true]; omega) | omega)) | omega | ((repeat' (apply And.intro)) <;> first | rfl | exact trivial | (simp only [tB, Nat.zero_add, Int.toNat_natCast, true_and, and_true]; omega) | omega | exact .inl rfl) | ((conv => whnf); (repeat' (apply And.intro)) <;> first | rfl | exact Ob.mk rfl | exact Ob.mk trivial))
def spendG (g : Geo) (d : Dev) : Dev × Int := if checkE g d = 0 then spendD d else (devNil, checkE g d)
def S26 : FSpec where
  D := Geo × Dev
  pre _ := True
  args := fun ⟨g, d⟩ => [.agg g.cells, .agg (devC d)]
  hin _ := []
  res := fun ⟨g, d⟩ => devE (spendG g d)
  hout := fun ⟨g, d⟩ => devH (spendG g d).1
  lend := true
  lends := fun _ d _ => ⟨devE_nofr _, devH_nofr _⟩
theorem ok26 : S26.Ok Try.prog 26 := by
  refine FSpec.okN [] (fn := Try.f26) (c := Try.f26.body.getD .skip) TOk_T mixed Γ12 rfl rfl (fun d => rfl) ?_
  rintro ⟨g, d⟩ hp hf hh
  have := i64_facts hf.2.1.2.2.2.1
  conv => whnf
  repeat (first | (refine And.intro ?_ ?_; rotate_left; conv => whnf) | (refine .inl (And.intro ?_ ?_); rotate_left; conv => whnf))
  refine ⟨(g, d), ?_⟩
  conv => whnf
  repeat (first | (refine And.intro ?_ ?_; rotate_left; conv => whnf) | (refine .inl (And.intro ?_ ?_); rotate_left; conv => whnf))
  intro hr
  conv => whnf
  repeat (first | (refine And.intro ?_ ?_; rotate_left; conv => whnf) | (refine .inl (And.intro ?_ ?_); rotate_left; conv => whnf))
  refine ⟨fun h => ?_, fun h => ?_⟩
  · have h : ¬ checkE g d = 0 := by simpa using h
    have e : spendG g d = (devNil, checkE g d) := by simp [spendG, h]
    conv => whnf
    repeat (first | (refine And.intro ?_ ?_; rotate_left; conv => whnf) | (refine .inl (And.intro ?_ ?_); rotate_left; conv => whnf))
    all_goals (try rw [e])
    all_goals try (first | with_reducible rfl | with_reducible exact NC.Eqv.refl _ | exact NC.Eqv.refl _ | exact trivial | with_reducible exact (fun _ _ _ _ => NC.Eqv.refl _) | exact (fun _ _ _ _ => NC.Eqv.refl _) | (refine Ob.mk ?_; first | with_reducible rfl | omega | (dsimp only; omega) | rfl | exact trivial | (refine i64_of ?_ ?_ <;> omega) | (simp only [tB, Nat.zero_add, Int.toNat_natCast, true_and, and_true]; done) | (simp only [tB, Nat.zero_add, Int.toNat_natCast, true_and, and_true]; omega) | (intro _; first | omega | exact trivial | (refine i64_of ?_ ?_ <;> omega)) | exact ⟨rfl, fun _ _ => trivial⟩ | exact (fun _ => ⟨rfl, fun _ _ => trivial⟩) | ((repeat' (apply And.intro)) <;> first | rfl | exact trivial | (simp only [tB, Nat.zero_add, Int.toNat_natCast, true_and, and_true]; omega) | omega)) | omega | ((repeat' (apply And.intro)) <;> first | rfl | exact trivial | (simp only [tB, Nat.zero_add, Int.toNat_natCast, true_and, and_true]; omega) | omega | exact .inl rfl) | ((conv => whnf); (repeat' (apply And.intro)) <;> first | rfl | exact Ob.mk rfl | exact Ob.mk trivial))
  have h : checkE g d = 0 := by simpa using h
  conv => whnf
  repeat (first | (refine And.intro ?_ ?_; rotate_left; conv => whnf) | (refine .inl (And.intro ?_ ?_); rotate_left; conv => whnf))
  refine ⟨fun h2 => ?_, fun h2 => ?_⟩
  · have h2 : d.fuel = 0 := by simpa using h2
    have e : spendG g d = (devNil, 10) := by simp [spendG, spendD, h, h2]
    conv => whnf
    repeat (first | (refine And.intro ?_ ?_; rotate_left; conv => whnf) | (refine .inl (And.intro ?_ ?_); rotate_left; conv => whnf))
    all_goals (try rw [e])
    all_goals try (first | with_reducible rfl | with_reducible exact NC.Eqv.refl _ | exact NC.Eqv.refl _ | exact trivial | with_reducible exact (fun _ _ _ _ => NC.Eqv.refl _) | exact (fun _ _ _ _ => NC.Eqv.refl _) | (refine Ob.mk ?_; first | with_reducible rfl | omega | (dsimp only; omega) | rfl | exact trivial | (refine i64_of ?_ ?_ <;> omega) | (simp only [tB, Nat.zero_add, Int.toNat_natCast, true_and, and_true]; done) | (simp only [tB, Nat.zero_add, Int.toNat_natCast, true_and, and_true]; omega) | (intro _; first | omega | exact trivial | (refine i64_of ?_ ?_ <;> omega)) | exact ⟨rfl, fun _ _ => trivial⟩ | exact (fun _ => ⟨rfl, fun _ _ => trivial⟩) | ((repeat' (apply And.intro)) <;> first | rfl | exact trivial | (simp only [tB, Nat.zero_add, Int.toNat_natCast, true_and, and_true]; omega) | omega)) | omega | ((repeat' (apply And.intro)) <;> first | rfl | exact trivial | (simp only [tB, Nat.zero_add, Int.toNat_natCast, true_and, and_true]; omega) | omega | exact .inl rfl) | ((conv => whnf); (repeat' (apply And.intro)) <;> first | rfl | exact Ob.mk rfl | exact Ob.mk trivial))
  have h2 : ¬ d.fuel = 0 := by simpa using h2
  conv => whnf
  repeat (first | (refine And.intro ?_ ?_; rotate_left; conv => whnf) | (refine .inl (And.intro ?_ ?_); rotate_left; conv => whnf))
  refine ⟨d, ?_⟩
  conv => whnf
  repeat (first | (refine And.intro ?_ ?_; rotate_left; conv => whnf) | (refine .inl (And.intro ?_ ?_); rotate_left; conv => whnf))
  intro hr
  conv => whnf
  repeat (first | (refine And.intro ?_ ?_; rotate_left; conv => whnf) | (refine .inl (And.intro ?_ ?_); rotate_left; conv => whnf))
  refine ⟨fun h3 => ?_, fun h3 => ?_⟩
  · have h3 : 0 < d.fuel := by simpa using h3
    have e : spendG g d = ({ d with fuel := d.fuel - 1 }, 0) := by simp [spendG, spendD, h, h2, h3]
    conv => whnf
    repeat (first | (refine And.intro ?_ ?_; rotate_left; conv => whnf) | (refine .inl (And.intro ?_ ?_); rotate_left; conv => whnf))
    all_goals (try rw [e])
    all_goals try (first | with_reducible rfl | with_reducible exact NC.Eqv.refl _ | exact NC.Eqv.refl _ | exact trivial | with_reducible exact (fun _ _ _ _ => NC.Eqv.refl _) | exact (fun _ _ _ _ => NC.Eqv.refl _) | (refine Ob.mk ?_; first | with_reducible rfl | omega | (dsimp only; omega) | rfl | exact trivial | (refine i64_of ?_ ?_ <;> omega) | (simp only [tB, Nat.zero_add, Int.toNat_natCast, true_and, and_true]; done) | (simp only [tB, Nat.zero_add, Int.toNat_natCast, true_and, and_true]; omega) | (intro _; first | omega | exact trivial | (refine i64_of ?_ ?_ <;> omega)) | exact ⟨rfl, fun _ _ => trivial⟩ | exact (fun _ => ⟨rfl, fun _ _ => trivial⟩) | ((repeat' (apply And.intro)) <;> first | rfl | exact trivial | (simp only [tB, Nat.zero_add, Int.toNat_natCast, true_and, and_true]; omega) | omega)) | omega | ((repeat' (apply And.intro)) <;> first | rfl | exact trivial | (simp only [tB, Nat.zero_add, Int.toNat_natCast, true_and, and_true]; omega) | omega | exact .inl rfl) | ((conv => whnf); (repeat' (apply And.intro)) <;> first | rfl | exact Ob.mk rfl | exact Ob.mk trivial))
  · have h3 : ¬ 0 < d.fuel := by simpa using h3
    have e : spendG g d = (d, 0) := by simp [spendG, spendD, h, h2, h3]
    conv => whnf
    repeat (first | (refine And.intro ?_ ?_; rotate_left; conv => whnf) | (refine .inl (And.intro ?_ ?_); rotate_left; conv => whnf))
    all_goals (try rw [e])
    all_goals try (first | with_reducible rfl | with_reducible exact NC.Eqv.refl _ | exact NC.Eqv.refl _ | exact trivial | with_reducible exact (fun _ _ _ _ => NC.Eqv.refl _) | exact (fun _ _ _ _ => NC.Eqv.refl _) | (refine Ob.mk ?_; first | with_reducible rfl | omega | (dsimp only; omega) | rfl | exact trivial | (refine i64_of ?_ ?_ <;> omega) | (simp only [tB, Nat.zero_add, Int.toNat_natCast, true_and, and_true]; done) | (simp only [tB, Nat.zero_add, Int.toNat_natCast, true_and, and_true]; omega) | (intro _; first | omega | exact trivial | (refine i64_of ?_ ?_ <;> omega)) | exact ⟨rfl, fun _ _ => trivial⟩ | exact (fun _ => ⟨rfl, fun _ _ => trivial⟩) | ((repeat' (apply And.intro)) <;> first | rfl | exact trivial | (simp only [tB, Nat.zero_add, Int.toNat_natCast, true_and, and_true]; omega) | omega)) | omega | ((repeat' (apply And.intro)) <;> first | rfl | exact trivial | (simp only [tB, Nat.zero_add, Int.toNat_natCast, true_and, and_true]; omega) | omega | exact .inl rfl) | ((conv => whnf); (repeat' (apply And.intro)) <;> first | rfl | exact Ob.mk rfl | exact Ob.mk trivial))
  all_goals try (first | with_reducible rfl | with_reducible exact NC.Eqv.refl _ | exact NC.Eqv.refl _ | exact trivial | with_reducible exact (fun _ _ _ _ => NC.Eqv.refl _) | exact (fun _ _ _ _ => NC.Eqv.refl _) | (refine Ob.mk ?_; first | with_reducible rfl | omega | (dsimp only; omega) | rfl | exact trivial | (refine i64_of ?_ ?_ <;> omega) | (simp only [tB, Nat.zero_add, Int.toNat_natCast, true_and, and_true]; done) | (simp only [tB, Nat.zero_add, Int.toNat_natCast, true_and, and_true]; omega) | (intro _; first | omega | exact trivial | (refine i64_of ?_ ?_ <;> omega)) | exact ⟨rfl, fun _ _ => trivial⟩ | exact (fun _ => ⟨rfl, fun _ _ => trivial⟩) | ((repeat' (apply And.intro)) <;> first | rfl | exact trivial | (simp only [tB, Nat.zero_add, Int.toNat_natCast, true_and, and_true]; omega) | omega)) | omega | ((repeat' (apply And.intro)) <;> first | rfl | exact trivial | (simp only [tB, Nat.zero_add, Int.toNat_natCast, true_and, and_true]; omega) | omega | exact .inl rfl) | ((conv => whnf); (repeat' (apply And.intro)) <;> first | rfl | exact Ob.mk rfl | exact Ob.mk trivial))
theorem fnOk29 : FnOk Try.prog 29 := ⟨Try.f29, rfl, by decide, rfl⟩
theorem fnOk26 : FnOk Try.prog 26 := ⟨Try.f26, rfl, by decide, rfl⟩
def L13 : List (Nat × FSpec) := (29, S29) :: (26, S26) :: L12
theorem Γ13 : ΓOk Try.prog (lkG L13) := ((Γ12).cons fnOk26 ok26).cons fnOk29 ok29
def freshV (g : Geo) (d : Dev) (v : Int) : Bool := bif v == (d.vols.length : Int) then decide (v < g.volumes) else false
theorem spendG_ok {g : Geo} {d : Dev} (h : checkE g d = 0) : spendG g d = spendD d := by simp [spendG, h]
theorem spendD_ok {d : Dev} (h : (spendD d).2 = 0) : spendD d = ({ d with fuel := (spendD d).1.fuel }, 0) := by
  unfold spendD at h ⊢
  split
  · rename_i h0; rw [if_pos h0] at h; cases h
  · rfl
def roomV (g : Geo) (d : Dev) (v : Int) : Int := if freshV g d v then 0 else (d.vols.getD v.toNat default).data.length
def volsV (g : Geo) (d : Dev) (v : Int) : List Vol := if freshV g d v then d.vols ++ [default] else d.vols
def appV (g : Geo) (d : Dev) (v : Int) (b : List UInt8) : Dev :=
  { d with vols := (volsV g d v).set v.toNat { (volsV g d v).getD v.toNat default with data := ((volsV g d v).getD v.toNat default).data ++ b }, fuel := (spendD d).1.fuel }
def appendG (g : Geo) (d : Dev) (v : Int) (b : List UInt8) : Dev × Int :=
  if checkE g d ≠ 0 then (devNil, checkE g d)
  else if freshV g d v = false ∧ volOk d v = false then (devNil, 6)
  else if g.volume < roomV g d v + b.length then (devNil, 8)
  else if (spendD d).2 ≠ 0 then (devNil, (spendD d).2)
  else (appV g d v b, 0)
structure ArgV where
  (g : Geo) (d : Dev) (v : Int) (b : List UInt8)
def S9 : FSpec where
  D := ArgV
  pre _ := True
  args := fun ⟨g, d, v, b⟩ => [.agg g.cells, .agg (devC d), .int .i64 v, .c (.nc (.f (bSl b)))]
  hin _ := []
  res := fun ⟨g, d, v, b⟩ => devE (appendG g d v b)
  hout := fun ⟨g, d, v, b⟩ => devH (appendG g d v b).1
  lend := true
  lends := fun _ d _ => ⟨devE_nofr _, devH_nofr _⟩
theorem check_vols {g : Geo} {d : Dev} (h : checkE g d = 0) : d.vols.length ≤ 8 := by
  unfold checkE at h
  split at h
  · rename_i hg
    have := (geo_rng hg).2.2.2.2
    split at h
    · rename_i hd
      simp [devOk, shape] at hd
      omega
    · cases h
  · cases h
theorem check_vol {g : Geo} {d : Dev} (h : checkE g d = 0) : 100 ≤ g.volume ∧ g.volume ≤ 4000 := by
  unfold checkE at h
  split at h
  · rename_i hg; exact (geo_rng hg).2.2.2.1
  · cases h
theorem app_bytes (A B : List UInt8) {h : Nat → Nat → NC} (e : ∀ i j, h i j = .f (bF B i j)) : ∀ i, i < A.length + B.length → ∀ j, j < 1 → (appA A.length (bN A) h i j).Eqv (bN (A ++ B) i j) := by
  exact app_rows (α := UInt8) (f := fun x _ => .f (.int .u8 x.toNat)) (d := 0) (l := A) (r := B) rfl (fun i _ j _ => by rw [e]; exact NC.Eqv.refl _)
theorem vols_upd (l : List Vol) (k : Nat) (b : List UInt8) (hk : k < l.length) {y : NC} (hy : y.Eqv (bU ((l.getD k default).data ++ b))) : ∀ i, i < l.length → ∀ j, j < 3 →
    (updA (vN l) k 0 [y] i j).Eqv (vN (l.set k { l.getD k default with data := (l.getD k default).data ++ b }) i j) := by
  refine upd_set ?_ fun i hi j hj hne => ?_
  · have : (l.set k { l.getD k default with data := (l.getD k default).data ++ b }).getD k default = { l.getD k default with data := (l.getD k default).data ++ b } := by
      simp [List.getD_eq_getElem?_getD, hk]
    show y.Eqv (vN1 ((l.set k { l.getD k default with data := (l.getD k default).data ++ b }).getD k default) 0)
    rw [this]
    exact hy
  · show (vN1 (l.getD i default) j).Eqv (vN1 ((l.set k _).getD i default) j)
    by_cases e : i = k
    · subst e
      have : (l.set i { l.getD i default with data := (l.getD i default).data ++ b }).getD i default = { l.getD i default with data := (l.getD i default).data ++ b } := by
        simp [List.getD_eq_getElem?_getD, hk]
      rw [this]
      match j, hj, hne with
      | 1, _, _ => exact NC.Eqv.refl _
      | 2, _, _ => exact NC.Eqv.refl _
      | 0, _, h => exact absurd ⟨rfl, rfl⟩ h
    · have : (l.set k { l.getD k default with data := (l.getD k default).data ++ b }).getD i default = l.getD i default := by
        simp [List.getD_eq_getElem?_getD, List.getElem?_set, Ne.symm e]
      rw [this]
      exact NC.Eqv.refl _
theorem roomV_in {g : Geo} {d : Dev} {v : Int} (F : DevF d) (h2 : ¬ (freshV g d v = false ∧ volOk d v = false)) : 0 ≤ roomV g d v ∧ roomV g d v ≤ 140737488355328 := by
  unfold roomV
  split
  · omega
  · rename_i h5
    have hv : volOk d v = true := by
      cases h6 : volOk d v
      · exact absurd ⟨by simpa using h5, h6⟩ h2
      · rfl
    simp [volOk] at hv
    have := F.vb v.toNat (by omega)
    omega
theorem volsV_in {g : Geo} {d : Dev} {v : Int} (h2 : ¬ (freshV g d v = false ∧ volOk d v = false)) : 0 ≤ v ∧ v < (volsV g d v).length := by
  unfold volsV
  split
  · rename_i h5
    simp [freshV] at h5
    simp
    cases h6 : decide (v = (d.vols.length : Int)) with
    | true => have h6 : v = d.vols.length := of_decide_eq_true h6; omega
    | false => have h6 := of_decide_eq_false h6; exact absurd h5.1 h6
  · rename_i h5
    have hv : volOk d v = true := by
      cases h6 : volOk d v
      · exact absurd ⟨by simpa using h5, h6⟩ h2
      · rfl
    simp [volOk] at hv
    omega
theorem room_eq (g : Geo) (d : Dev) (v : Int) : (((volsV g d v).getD v.toNat default).data.length : Int) = roomV g d v := by
  unfold volsV roomV
  split
  · rename_i h5
    have hv : v.toNat = d.vols.length := by
      simp [freshV] at h5
      cases h6 : decide (v = (d.vols.length : Int)) with
      | true => have h6 : v = d.vols.length := of_decide_eq_true h6; omega
      | false => exact absurd h5.1 (of_decide_eq_false h6)
    rw [hv]
    simp [List.getD_eq_getElem?_getD]
    rfl
  · rfl
theorem ok9 : S9.Ok Try.prog 9 := by
  refine FSpec.okN [10, 17] (fn := Try.f9) (c := Try.f9.body.getD .skip) TOk_T mixed Γ13 rfl rfl (fun d => rfl) ?_
  rintro ⟨g, d, v, b⟩ hp hf hh
  have F := devF hf.2.1
  have F1 := F.s
  have F2 := F.c
  have F3 := F.v
  have B : b.length ≤ 140737488355328 := hf.2.2.2.1.1
  have V := i64_facts hf.2.2.1
  conv => whnf
  repeat (first | (refine And.intro ?_ ?_; rotate_left; conv => whnf) | (refine .inl (And.intro ?_ ?_); rotate_left; conv => whnf))
  refine ⟨(g, d), ?_⟩
  conv => whnf
  repeat (first | (refine And.intro ?_ ?_; rotate_left; conv => whnf) | (refine .inl (And.intro ?_ ?_); rotate_left; conv => whnf))
  intro hr
  conv => whnf
  repeat (first | (refine And.intro ?_ ?_; rotate_left; conv => whnf) | (refine .inl (And.intro ?_ ?_); rotate_left; conv => whnf))
  refine ⟨fun h => ?_, fun h => ?_⟩
  · have h : checkE g d ≠ 0 := by simpa using h
    have e : appendG g d v b = (devNil, checkE g d) := by simp [appendG, h]
    conv => whnf
    repeat (first | (refine And.intro ?_ ?_; rotate_left; conv => whnf) | (refine .inl (And.intro ?_ ?_); rotate_left; conv => whnf))
    all_goals (try rw [e])
    all_goals try (first | with_reducible rfl | with_reducible exact NC.Eqv.refl _ | exact NC.Eqv.refl _ | exact trivial | with_reducible exact (fun _ _ _ _ => NC.Eqv.refl _) | exact (fun _ _ _ _ => NC.Eqv.refl _) | (refine Ob.mk ?_; first | with_reducible rfl | omega | (dsimp only; omega) | rfl | exact trivial | (refine i64_of ?_ ?_ <;> omega) | (simp only [tB, Nat.zero_add, Int.toNat_natCast, true_and, and_true]; done) | (simp only [tB, Nat.zero_add, Int.toNat_natCast, true_and, and_true]; omega) | (intro _; first | omega | exact trivial | (refine i64_of ?_ ?_ <;> omega)) | exact ⟨rfl, fun _ _ => trivial⟩ | exact (fun _ => ⟨rfl, fun _ _ => trivial⟩) | ((repeat' (apply And.intro)) <;> first | rfl | exact trivial | (simp only [tB, Nat.zero_add, Int.toNat_natCast, true_and, and_true]; omega) | omega)) | omega | ((repeat' (apply And.intro)) <;> first | rfl | exact trivial | (simp only [tB, Nat.zero_add, Int.toNat_natCast, true_and, and_true]; omega) | omega | exact .inl rfl) | ((conv => whnf); (repeat' (apply And.intro)) <;> first | rfl | exact Ob.mk rfl | exact Ob.mk trivial))
  have h : checkE g d = 0 := by simpa using h
  have G := check_vol h
  have G2 := check_vols h
  conv => whnf
  repeat (first | (refine And.intro ?_ ?_; rotate_left; conv => whnf) | (refine .inl (And.intro ?_ ?_); rotate_left; conv => whnf))
  refine ⟨(d, v), ?_⟩
  conv => whnf
  repeat (first | (refine And.intro ?_ ?_; rotate_left; conv => whnf) | (refine .inl (And.intro ?_ ?_); rotate_left; conv => whnf))
  intro hr
  conv => whnf
  repeat (first | (refine And.intro ?_ ?_; rotate_left; conv => whnf) | (refine .inl (And.intro ?_ ?_); rotate_left; conv => whnf))
  refine ⟨fun h2 => ?_, fun h2 => ?_⟩
  · have h2 : freshV g d v = false ∧ volOk d v = false := by
      change (bif !freshV g d v then !volOk d v else false) = true at h2
      cases h5 : freshV g d v <;> cases h6 : volOk d v <;> simp [h5, h6] at h2 ⊢
    have e : appendG g d v b = (devNil, 6) := by simp [appendG, h, h2]
    conv => whnf
    repeat (first | (refine And.intro ?_ ?_; rotate_left; conv => whnf) | (refine .inl (And.intro ?_ ?_); rotate_left; conv => whnf))
    all_goals (try rw [e])
    all_goals try (first | with_reducible rfl | with_reducible exact NC.Eqv.refl _ | exact NC.Eqv.refl _ | exact trivial | with_reducible exact (fun _ _ _ _ => NC.Eqv.refl _) | exact (fun _ _ _ _ => NC.Eqv.refl _) | (refine Ob.mk ?_; first | with_reducible rfl | omega | (dsimp only; omega) | rfl | exact trivial | (refine i64_of ?_ ?_ <;> omega) | (simp only [tB, Nat.zero_add, Int.toNat_natCast, true_and, and_true]; done) | (simp only [tB, Nat.zero_add, Int.toNat_natCast, true_and, and_true]; omega) | (intro _; first | omega | exact trivial | (refine i64_of ?_ ?_ <;> omega)) | exact ⟨rfl, fun _ _ => trivial⟩ | exact (fun _ => ⟨rfl, fun _ _ => trivial⟩) | ((repeat' (apply And.intro)) <;> first | rfl | exact trivial | (simp only [tB, Nat.zero_add, Int.toNat_natCast, true_and, and_true]; omega) | omega)) | omega | ((repeat' (apply And.intro)) <;> first | rfl | exact trivial | (simp only [tB, Nat.zero_add, Int.toNat_natCast, true_and, and_true]; omega) | omega | exact .inl rfl) | ((conv => whnf); (repeat' (apply And.intro)) <;> first | rfl | exact Ob.mk rfl | exact Ob.mk trivial))
  have h2 : ¬ (freshV g d v = false ∧ volOk d v = false) := by
    change (bif !freshV g d v then !volOk d v else false) = false at h2
    cases h5 : freshV g d v <;> cases h6 : volOk d v <;> simp [h5, h6] at h2 ⊢
  have hR := roomV_in F h2
  have hV := volsV_in h2
  conv => whnf
  refine ⟨Unit, [2, 3, 4, 5, 8, 9, 11], fun _ => [(12, .int .i64 (roomV g d v))], fun _ => [], ?_, fun _ => ?_⟩
  · conv => whnf
    repeat (first | (refine And.intro ?_ ?_; rotate_left; conv => whnf) | (refine .inl (And.intro ?_ ?_); rotate_left; conv => whnf))
    refine ⟨fun h3 => ?_, fun h3 => ?_⟩
    · have h3 : freshV g d v = false := by
        change (!freshV g d v) = true at h3
        simpa using h3
      have hr : roomV g d v = (d.vols.getD v.toNat default).data.length := by simp [roomV, h3]
      have hs : volsV g d v = d.vols := by simp [volsV, h3]
      rw [hs] at hV
      conv => whnf
      repeat (first | (refine And.intro ?_ ?_; rotate_left; conv => whnf) | (refine .inl (And.intro ?_ ?_); rotate_left; conv => whnf))
      refine ⟨(), ?_⟩
      conv => whnf
      repeat (first | (refine And.intro ?_ ?_; rotate_left; conv => whnf) | (refine .inl (And.intro ?_ ?_); rotate_left; conv => whnf))
      all_goals try (first | with_reducible rfl | with_reducible exact NC.Eqv.refl _ | exact NC.Eqv.refl _ | exact trivial | with_reducible exact (fun _ _ _ _ => NC.Eqv.refl _) | exact (fun _ _ _ _ => NC.Eqv.refl _) | (refine Ob.mk ?_; first | with_reducible rfl | omega | (dsimp only; omega) | rfl | exact trivial | (refine i64_of ?_ ?_ <;> omega) | (simp only [tB, Nat.zero_add, Int.toNat_natCast, true_and, and_true]; done) | (simp only [tB, Nat.zero_add, Int.toNat_natCast, true_and, and_true]; omega) | (intro _; first | omega | exact trivial | (refine i64_of ?_ ?_ <;> omega)) | exact ⟨rfl, fun _ _ => trivial⟩ | exact (fun _ => ⟨rfl, fun _ _ => trivial⟩) | ((repeat' (apply And.intro)) <;> first | rfl | exact trivial | (simp only [tB, Nat.zero_add, Int.toNat_natCast, true_and, and_true]; omega) | omega)) | omega | ((repeat' (apply And.intro)) <;> first | rfl | exact trivial | (simp only [tB, Nat.zero_add, Int.toNat_natCast, true_and, and_true]; omega) | omega | exact .inl rfl) | ((conv => whnf); (repeat' (apply And.intro)) <;> first | rfl | exact Ob.mk rfl | exact Ob.mk trivial))
    · have h3 : freshV g d v = true := by
        change (!freshV g d v) = false at h3
        simpa using h3
      have hr : roomV g d v = 0 := by simp [roomV, h3]
      conv => whnf
      repeat (first | (refine And.intro ?_ ?_; rotate_left; conv => whnf) | (refine .inl (And.intro ?_ ?_); rotate_left; conv => whnf))
      refine ⟨(), ?_⟩
      conv => whnf
      repeat (first | (refine And.intro ?_ ?_; rotate_left; conv => whnf) | (refine .inl (And.intro ?_ ?_); rotate_left; conv => whnf))
      all_goals try (first | with_reducible rfl | with_reducible exact NC.Eqv.refl _ | exact NC.Eqv.refl _ | exact trivial | with_reducible exact (fun _ _ _ _ => NC.Eqv.refl _) | exact (fun _ _ _ _ => NC.Eqv.refl _) | (refine Ob.mk ?_; first | with_reducible rfl | omega | (dsimp only; omega) | rfl | exact trivial | (refine i64_of ?_ ?_ <;> omega) | (simp only [tB, Nat.zero_add, Int.toNat_natCast, true_and, and_true]; done) | (simp only [tB, Nat.zero_add, Int.toNat_natCast, true_and, and_true]; omega) | (intro _; first | omega | exact trivial | (refine i64_of ?_ ?_ <;> omega)) | exact ⟨rfl, fun _ _ => trivial⟩ | exact (fun _ => ⟨rfl, fun _ _ => trivial⟩) | ((repeat' (apply And.intro)) <;> first | rfl | exact trivial | (simp only [tB, Nat.zero_add, Int.toNat_natCast, true_and, and_true]; omega) | omega)) | omega | ((repeat' (apply And.intro)) <;> first | rfl | exact trivial | (simp only [tB, Nat.zero_add, Int.toNat_natCast, true_and, and_true]; omega) | omega | exact .inl rfl) | ((conv => whnf); (repeat' (apply And.intro)) <;> first | rfl | exact Ob.mk rfl | exact Ob.mk trivial))
  conv => whnf
  repeat (first | (refine And.intro ?_ ?_; rotate_left; conv => whnf) | (refine .inl (And.intro ?_ ?_); rotate_left; conv => whnf))
  refine ⟨fun h4 => ?_, fun h4 => ?_⟩
  · have h4 : g.volume < roomV g d v + b.length := by
      cases h5 : decide (g.volume < (b.length : Int)) with
      | true => simp at h5; omega
      | false => rw [h5] at h4; simpa using h4
    have e : appendG g d v b = (devNil, 8) := by simp [appendG, h, h2, h4]
    conv => whnf
    repeat (first | (refine And.intro ?_ ?_; rotate_left; conv => whnf) | (refine .inl (And.intro ?_ ?_); rotate_left; conv => whnf))
    all_goals (try rw [e])
    all_goals try (first | with_reducible rfl | with_reducible exact NC.Eqv.refl _ | exact NC.Eqv.refl _ | exact trivial | with_reducible exact (fun _ _ _ _ => NC.Eqv.refl _) | exact (fun _ _ _ _ => NC.Eqv.refl _) | (refine Ob.mk ?_; first | with_reducible rfl | omega | (dsimp only; omega) | rfl | exact trivial | (refine i64_of ?_ ?_ <;> omega) | (simp only [tB, Nat.zero_add, Int.toNat_natCast, true_and, and_true]; done) | (simp only [tB, Nat.zero_add, Int.toNat_natCast, true_and, and_true]; omega) | (intro _; first | omega | exact trivial | (refine i64_of ?_ ?_ <;> omega)) | exact ⟨rfl, fun _ _ => trivial⟩ | exact (fun _ => ⟨rfl, fun _ _ => trivial⟩) | ((repeat' (apply And.intro)) <;> first | rfl | exact trivial | (simp only [tB, Nat.zero_add, Int.toNat_natCast, true_and, and_true]; omega) | omega)) | omega | ((repeat' (apply And.intro)) <;> first | rfl | exact trivial | (simp only [tB, Nat.zero_add, Int.toNat_natCast, true_and, and_true]; omega) | omega | exact .inl rfl) | ((conv => whnf); (repeat' (apply And.intro)) <;> first | rfl | exact Ob.mk rfl | exact Ob.mk trivial))
  have h4 : ¬ g.volume < roomV g d v + b.length := by
    cases h5 : decide (g.volume < (b.length : Int)) with
    | true => rw [h5] at h4; cases h4
    | false => rw [h5] at h4; simpa using h4
  conv => whnf
  repeat (first | (refine And.intro ?_ ?_; rotate_left; conv => whnf) | (refine .inl (And.intro ?_ ?_); rotate_left; conv => whnf))
  refine ⟨(g, d), ?_⟩
  conv => whnf
  repeat (first | (refine And.intro ?_ ?_; rotate_left; conv => whnf) | (refine .inl (And.intro ?_ ?_); rotate_left; conv => whnf))
  intro hr
  conv => whnf
  repeat (first | (refine And.intro ?_ ?_; rotate_left; conv => whnf) | (refine .inl (And.intro ?_ ?_); rotate_left; conv => whnf))
  refine ⟨fun h7 => ?_, fun h7 => ?_⟩
  · have h7 : (spendD d).2 ≠ 0 := by rw [← spendG_ok h]; simpa using h7
    have e : appendG g d v b = (devNil, (spendG g d).2) := by rw [spendG_ok h]; simp [appendG, h, h2, h4, h7]
    conv => whnf
    repeat (first | (refine And.intro ?_ ?_; rotate_left; conv => whnf) | (refine .inl (And.intro ?_ ?_); rotate_left; conv => whnf))
    all_goals (try rw [e])
    all_goals try (first | with_reducible rfl | with_reducible exact NC.Eqv.refl _ | exact NC.Eqv.refl _ | exact trivial | with_reducible exact (fun _ _ _ _ => NC.Eqv.refl _) | exact (fun _ _ _ _ => NC.Eqv.refl _) | (refine Ob.mk ?_; first | with_reducible rfl | omega | (dsimp only; omega) | rfl | exact trivial | (refine i64_of ?_ ?_ <;> omega) | (simp only [tB, Nat.zero_add, Int.toNat_natCast, true_and, and_true]; done) | (simp only [tB, Nat.zero_add, Int.toNat_natCast, true_and, and_true]; omega) | (intro _; first | omega | exact trivial | (refine i64_of ?_ ?_ <;> omega)) | exact ⟨rfl, fun _ _ => trivial⟩ | exact (fun _ => ⟨rfl, fun _ _ => trivial⟩) | ((repeat' (apply And.intro)) <;> first | rfl | exact trivial | (simp only [tB, Nat.zero_add, Int.toNat_natCast, true_and, and_true]; omega) | omega)) | omega | ((repeat' (apply And.intro)) <;> first | rfl | exact trivial | (simp only [tB, Nat.zero_add, Int.toNat_natCast, true_and, and_true]; omega) | omega | exact .inl rfl) | ((conv => whnf); (repeat' (apply And.intro)) <;> first | rfl | exact Ob.mk rfl | exact Ob.mk trivial))
  have h7 : (spendD d).2 = 0 := by rw [← spendG_ok h]; simpa using h7
  have e : appendG g d v b = (appV g d v b, 0) := by simp [appendG, h, h2, h4, h7]
  have e2 : spendG g d = ({ d with fuel := (spendD d).1.fuel }, 0) := by rw [spendG_ok h]; exact spendD_ok h7
  rw [e2]
  dsimp only
  conv => whnf
  refine ⟨Unit, [2, 3, 8, 9, 13], fun _ => [], fun _ => [(1320, .var [.own 1256 1 0 d.safe.length, .own 1257 2 0 d.cache.length, .own 122 3 0 (volsV g d v).length, .int .i64 (spendD d).1.fuel]), (122, .arr 3 40 (volsV g d v).length none (vN (volsV g d v)) none)], ?_, fun _ => ?_⟩
  · conv => whnf
    repeat (first | (refine And.intro ?_ ?_; rotate_left; conv => whnf) | (refine .inl (And.intro ?_ ?_); rotate_left; conv => whnf))
    refine ⟨fun h3 => ?_, fun h3 => ?_⟩
    · have hs : volsV g d v = d.vols ++ [default] := by simp [volsV, show freshV g d v = true from h3]
      rw [hs]
      conv => whnf
      repeat (first | (refine And.intro ?_ ?_; rotate_left; conv => whnf) | (refine .inl (And.intro ?_ ?_); rotate_left; conv => whnf))
      refine ⟨(), ?_⟩
      conv => whnf
      repeat (first | (refine And.intro ?_ ?_; rotate_left; conv => whnf) | (refine .inl (And.intro ?_ ?_); rotate_left; conv => whnf))
      all_goals try (first | with_reducible rfl | with_reducible exact NC.Eqv.refl _ | exact NC.Eqv.refl _ | exact trivial | with_reducible exact (fun _ _ _ _ => NC.Eqv.refl _) | exact (fun _ _ _ _ => NC.Eqv.refl _) | (refine Ob.mk ?_; first | with_reducible rfl | omega | (dsimp only; omega) | rfl | exact trivial | (refine i64_of ?_ ?_ <;> omega) | (simp only [tB, Nat.zero_add, Int.toNat_natCast, true_and, and_true]; done) | (simp only [tB, Nat.zero_add, Int.toNat_natCast, true_and, and_true]; omega) | (intro _; first | omega | exact trivial | (refine i64_of ?_ ?_ <;> omega)) | exact ⟨rfl, fun _ _ => trivial⟩ | exact (fun _ => ⟨rfl, fun _ _ => trivial⟩) | ((repeat' (apply And.intro)) <;> first | rfl | exact trivial | (simp only [tB, Nat.zero_add, Int.toNat_natCast, true_and, and_true]; omega) | omega)) | omega | ((repeat' (apply And.intro)) <;> first | rfl | exact trivial | (simp only [tB, Nat.zero_add, Int.toNat_natCast, true_and, and_true]; omega) | omega | exact .inl rfl) | ((conv => whnf); (repeat' (apply And.intro)) <;> first | rfl | exact Ob.mk rfl | exact Ob.mk trivial))
      · exact ⟨rfl, rfl, by simp⟩
      · exact ⟨rfl, rfl, by simp, .inl rfl⟩
      · refine app_rows (α := Vol) (f := vN1) (d := default) (l := d.vols) (r := [default]) rfl fun i hi j hj => ?_
        have e1 : i = 0 := by simp at hi; omega
        have hj : j < 3 := hj
        subst e1
        match j, hj with
        | 0, _ => exact ⟨rfl, rfl, rfl, fun i hi => absurd hi (by omega)⟩
        | 1, _ => exact NC.Eqv.refl _
        | 2, _ => exact NC.Eqv.refl _
    · have hs : volsV g d v = d.vols := by simp [volsV, show freshV g d v = false from h3]
      rw [hs]
      conv => whnf
      repeat (first | (refine And.intro ?_ ?_; rotate_left; conv => whnf) | (refine .inl (And.intro ?_ ?_); rotate_left; conv => whnf))
      refine ⟨(), ?_⟩
      conv => whnf
      repeat (first | (refine And.intro ?_ ?_; rotate_left; conv => whnf) | (refine .inl (And.intro ?_ ?_); rotate_left; conv => whnf))
      all_goals try (first | with_reducible rfl | with_reducible exact NC.Eqv.refl _ | exact NC.Eqv.refl _ | exact trivial | with_reducible exact (fun _ _ _ _ => NC.Eqv.refl _) | exact (fun _ _ _ _ => NC.Eqv.refl _) | (refine Ob.mk ?_; first | with_reducible rfl | omega | (dsimp only; omega) | rfl | exact trivial | (refine i64_of ?_ ?_ <;> omega) | (simp only [tB, Nat.zero_add, Int.toNat_natCast, true_and, and_true]; done) | (simp only [tB, Nat.zero_add, Int.toNat_natCast, true_and, and_true]; omega) | (intro _; first | omega | exact trivial | (refine i64_of ?_ ?_ <;> omega)) | exact ⟨rfl, fun _ _ => trivial⟩ | exact (fun _ => ⟨rfl, fun _ _ => trivial⟩) | ((repeat' (apply And.intro)) <;> first | rfl | exact trivial | (simp only [tB, Nat.zero_add, Int.toNat_natCast, true_and, and_true]; omega) | omega)) | omega | ((repeat' (apply And.intro)) <;> first | rfl | exact trivial | (simp only [tB, Nat.zero_add, Int.toNat_natCast, true_and, and_true]; omega) | omega | exact .inl rfl) | ((conv => whnf); (repeat' (apply And.intro)) <;> first | rfl | exact Ob.mk rfl | exact Ob.mk trivial))
  have hL : (volsV g d v).length = (appV g d v b).vols.length := by simp [appV]
  have hX : ((volsV g d v).getD v.toNat default).data.length + b.length ≤ 4000 := by
    have := room_eq g d v
    omega
  conv => whnf
  repeat (first | (refine And.intro ?_ ?_; rotate_left; conv => whnf) | (refine .inl (And.intro ?_ ?_); rotate_left; conv => whnf))
  all_goals (try rw [e])
  all_goals try (first | with_reducible rfl | with_reducible exact NC.Eqv.refl _ | exact NC.Eqv.refl _ | exact trivial | with_reducible exact (fun _ _ _ _ => NC.Eqv.refl _) | exact (fun _ _ _ _ => NC.Eqv.refl _) | (refine Ob.mk ?_; first | with_reducible rfl | omega | (dsimp only; omega) | rfl | exact trivial | (refine i64_of ?_ ?_ <;> omega) | (simp only [tB, Nat.zero_add, Int.toNat_natCast, true_and, and_true]; done) | (simp only [tB, Nat.zero_add, Int.toNat_natCast, true_and, and_true]; omega) | (intro _; first | omega | exact trivial | (refine i64_of ?_ ?_ <;> omega)) | exact ⟨rfl, fun _ _ => trivial⟩ | exact (fun _ => ⟨rfl, fun _ _ => trivial⟩) | ((repeat' (apply And.intro)) <;> first | rfl | exact trivial | (simp only [tB, Nat.zero_add, Int.toNat_natCast, true_and, and_true]; omega) | omega)) | omega | ((repeat' (apply And.intro)) <;> first | rfl | exact trivial | (simp only [tB, Nat.zero_add, Int.toNat_natCast, true_and, and_true]; omega) | omega | exact .inl rfl) | ((conv => whnf); (repeat' (apply And.intro)) <;> first | rfl | exact Ob.mk rfl | exact Ob.mk trivial))
  · have hk : v.toNat < (volsV g d v).length := by omega
    have := vols_upd (volsV g d v) v.toNat b hk (y := NC.uq 1 1 (((volsV g d v).getD v.toNat default).data.length + b.length) (appA ((volsV g d v).getD v.toNat default).data.length (bN ((volsV g d v).getD v.toNat default).data) fun i j => NC.f (bF b i j)))
      ⟨rfl, rfl, by simp, app_bytes _ _ (fun _ _ => rfl)⟩
    simp only [Nat.zero_add, tB]
    exact this
end Go.Ice.S1
end

section
set_option linter.unusedVariables false
set_option linter.unusedSimpArgs false
set_option maxRecDepth 20000
namespace Go.Ice.S1
open Go.Proofs
theorem ok11 : S9.Ok Try.prog 11 := by
  refine FSpec.okN [10, 17] (fn := Try.f11) (c := Try.f11.body.getD .skip) TOk_T mixed Γ13 rfl rfl (fun d => rfl) ?_
  rintro ⟨g, d, v, b⟩ hp hf hh
  have F := devF hf.2.1
  have F1 := F.s
  have F2 := F.c
  have F3 := F.v
  have B : b.length ≤ 140737488355328 := hf.2.2.2.1.1
  have V := i64_facts hf.2.2.1
  conv => whnf
  repeat (first | (refine And.intro ?_ ?_; rotate_left; conv => whnf) | (refine .inl (And.intro ?_ ?_); rotate_left; conv => whnf))
  refine ⟨(g, d), ?_⟩
  conv => whnf
  repeat (first | (refine And.intro ?_ ?_; rotate_left; conv => whnf) | (refine .inl (And.intro ?_ ?_); rotate_left; conv => whnf))
  intro hr
  conv => whnf
  repeat (first | (refine And.intro ?_ ?_; rotate_left; conv => whnf) | (refine .inl (And.intro ?_ ?_); rotate_left; conv => whnf))
  refine ⟨fun h => ?_, fun h => ?_⟩
  · have h : checkE g d ≠ 0 := by simpa using h
    have e : appendG g d v b = (devNil, checkE g d) := by simp [appendG, h]
    conv => whnf
    repeat (first | (refine And.intro ?_ ?_; rotate_left; conv => whnf) | (refine .inl (And.intro ?_ ?_); rotate_left; conv => whnf))
    all_goals (try rw [e])
    all_goals try (first | with_reducible rfl | with_reducible exact NC.Eqv.refl _ | exact NC.Eqv.refl _ | exact trivial | with_reducible exact (fun _ _ _ _ => NC.Eqv.refl _) | exact (fun _ _ _ _ => NC.Eqv.refl _) | (refine Ob.mk ?_; first | with_reducible rfl | omega | (dsimp only; omega) | rfl | exact trivial | (refine i64_of ?_ ?_ <;> omega) | (simp only [tB, Nat.zero_add, Int.toNat_natCast, true_and, and_true]; done) | (simp only [tB, Nat.zero_add, Int.toNat_natCast, true_and, and_true]; omega) | (intro _; first | omega | exact trivial | (refine i64_of ?_ ?_ <;> omega)) | exact ⟨rfl, fun _ _ => trivial⟩ | exact (fun _ => ⟨rfl, fun _ _ => trivial⟩) | ((repeat' (apply And.intro)) <;> first | rfl | exact trivial | (simp only [tB, Nat.zero_add, Int.toNat_natCast, true_and, and_true]; omega) | omega)) | omega | ((repeat' (apply And.intro)) <;> first | rfl | exact trivial | (simp only [tB, Nat.zero_add, Int.toNat_natCast, true_and, and_true]; omega) | omega | exact .inl rfl) | ((conv => whnf); (repeat' (apply And.intro)) <;> first | rfl | exact Ob.mk rfl | exact Ob.mk trivial))
  have h : checkE g d = 0 := by simpa using h
  have G := check_vol h
  have G2 := check_vols h
  conv => whnf
  repeat (first | (refine And.intro ?_ ?_; rotate_left; conv => whnf) | (refine .inl (And.intro ?_ ?_); rotate_left; conv => whnf))
  refine ⟨(d, v), ?_⟩
  conv => whnf
  repeat (first | (refine And.intro ?_ ?_; rotate_left; conv => whnf) | (refine .inl (And.intro ?_ ?_); rotate_left; conv => whnf))
  intro hr
  conv => whnf
  repeat (first | (refine And.intro ?_ ?_; rotate_left; conv => whnf) | (refine .inl (And.intro ?_ ?_); rotate_left; conv => whnf))
  refine ⟨fun h2 => ?_, fun h2 => ?_⟩
  · have h2 : freshV g d v = false ∧ volOk d v = false := by
      change (bif !freshV g d v then !volOk d v else false) = true at h2
      cases h5 : freshV g d v <;> cases h6 : volOk d v <;> simp [h5, h6] at h2 ⊢
    have e : appendG g d v b = (devNil, 6) := by simp [appendG, h, h2]
    conv => whnf
    repeat (first | (refine And.intro ?_ ?_; rotate_left; conv => whnf) | (refine .inl (And.intro ?_ ?_); rotate_left; conv => whnf))
    all_goals (try rw [e])
    all_goals try (first | with_reducible rfl | with_reducible exact NC.Eqv.refl _ | exact NC.Eqv.refl _ | exact trivial | with_reducible exact (fun _ _ _ _ => NC.Eqv.refl _) | exact (fun _ _ _ _ => NC.Eqv.refl _) | (refine Ob.mk ?_; first | with_reducible rfl | omega | (dsimp only; omega) | rfl | exact trivial | (refine i64_of ?_ ?_ <;> omega) | (simp only [tB, Nat.zero_add, Int.toNat_natCast, true_and, and_true]; done) | (simp only [tB, Nat.zero_add, Int.toNat_natCast, true_and, and_true]; omega) | (intro _; first | omega | exact trivial | (refine i64_of ?_ ?_ <;> omega)) | exact ⟨rfl, fun _ _ => trivial⟩ | exact (fun _ => ⟨rfl, fun _ _ => trivial⟩) | ((repeat' (apply And.intro)) <;> first | rfl | exact trivial | (simp only [tB, Nat.zero_add, Int.toNat_natCast, true_and, and_true]; omega) | omega)) | omega | ((repeat' (apply And.intro)) <;> first | rfl | exact trivial | (simp only [tB, Nat.zero_add, Int.toNat_natCast, true_and, and_true]; omega) | omega | exact .inl rfl) | ((conv => whnf); (repeat' (apply And.intro)) <;> first | rfl | exact Ob.mk rfl | exact Ob.mk trivial))
  have h2 : ¬ (freshV g d v = false ∧ volOk d v = false) := by
    change (bif !freshV g d v then !volOk d v else false) = false at h2
    cases h5 : freshV g d v <;> cases h6 : volOk d v <;> simp [h5, h6] at h2 ⊢
  have hR := roomV_in F h2
  have hV := volsV_in h2
  conv => whnf
  refine ⟨Unit, [2, 3, 4, 5, 8, 9, 11], fun _ => [(12, .int .i64 (b.length + roomV g d v))], fun _ => [], ?_, fun _ => ?_⟩
  · conv => whnf
    repeat (first | (refine And.intro ?_ ?_; rotate_left; conv => whnf) | (refine .inl (And.intro ?_ ?_); rotate_left; conv => whnf))
    refine ⟨fun h3 => ?_, fun h3 => ?_⟩
    · have h3 : freshV g d v = false := by
        change (!freshV g d v) = true at h3
        simpa using h3
      have hr : roomV g d v = (d.vols.getD v.toNat default).data.length := by simp [roomV, h3]
      have hs : volsV g d v = d.vols := by simp [volsV, h3]
      rw [hs] at hV
      conv => whnf
      repeat (first | (refine And.intro ?_ ?_; rotate_left; conv => whnf) | (refine .inl (And.intro ?_ ?_); rotate_left; conv => whnf))
      refine ⟨(), ?_⟩
      conv => whnf
      repeat (first | (refine And.intro ?_ ?_; rotate_left; conv => whnf) | (refine .inl (And.intro ?_ ?_); rotate_left; conv => whnf))
      all_goals try (first | with_reducible rfl | with_reducible exact NC.Eqv.refl _ | exact NC.Eqv.refl _ | exact trivial | with_reducible exact (fun _ _ _ _ => NC.Eqv.refl _) | exact (fun _ _ _ _ => NC.Eqv.refl _) | (refine Ob.mk ?_; first | with_reducible rfl | omega | (dsimp only; omega) | rfl | exact trivial | (refine i64_of ?_ ?_ <;> omega) | (simp only [tB, Nat.zero_add, Int.toNat_natCast, true_and, and_true]; done) | (simp only [tB, Nat.zero_add, Int.toNat_natCast, true_and, and_true]; omega) | (intro _; first | omega | exact trivial | (refine i64_of ?_ ?_ <;> omega)) | exact ⟨rfl, fun _ _ => trivial⟩ | exact (fun _ => ⟨rfl, fun _ _ => trivial⟩) | ((repeat' (apply And.intro)) <;> first | rfl | exact trivial | (simp only [tB, Nat.zero_add, Int.toNat_natCast, true_and, and_true]; omega) | omega)) | omega | ((repeat' (apply And.intro)) <;> first | rfl | exact trivial | (simp only [tB, Nat.zero_add, Int.toNat_natCast, true_and, and_true]; omega) | omega | exact .inl rfl) | ((conv => whnf); (repeat' (apply And.intro)) <;> first | rfl | exact Ob.mk rfl | exact Ob.mk trivial))
    · have h3 : freshV g d v = true := by
        change (!freshV g d v) = false at h3
        simpa using h3
      have hr : roomV g d v = 0 := by simp [roomV, h3]
      conv => whnf
      repeat (first | (refine And.intro ?_ ?_; rotate_left; conv => whnf) | (refine .inl (And.intro ?_ ?_); rotate_left; conv => whnf))
      refine ⟨(), ?_⟩
      conv => whnf
      repeat (first | (refine And.intro ?_ ?_; rotate_left; conv => whnf) | (refine .inl (And.intro ?_ ?_); rotate_left; conv => whnf))
      all_goals try (first | with_reducible rfl | with_reducible exact NC.Eqv.refl _ | exact NC.Eqv.refl _ | exact trivial | with_reducible exact (fun _ _ _ _ => NC.Eqv.refl _) | exact (fun _ _ _ _ => NC.Eqv.refl _) | (refine Ob.mk ?_; first | with_reducible rfl | omega | (dsimp only; omega) | rfl | exact trivial | (refine i64_of ?_ ?_ <;> omega) | (simp only [tB, Nat.zero_add, Int.toNat_natCast, true_and, and_true]; done) | (simp only [tB, Nat.zero_add, Int.toNat_natCast, true_and, and_true]; omega) | (intro _; first | omega | exact trivial | (refine i64_of ?_ ?_ <;> omega)) | exact ⟨rfl, fun _ _ => trivial⟩ | exact (fun _ => ⟨rfl, fun _ _ => trivial⟩) | ((repeat' (apply And.intro)) <;> first | rfl | exact trivial | (simp only [tB, Nat.zero_add, Int.toNat_natCast, true_and, and_true]; omega) | omega)) | omega | ((repeat' (apply And.intro)) <;> first | rfl | exact trivial | (simp only [tB, Nat.zero_add, Int.toNat_natCast, true_and, and_true]; omega) | omega | exact .inl rfl) | ((conv => whnf); (repeat' (apply And.intro)) <;> first | rfl | exact Ob.mk rfl | exact Ob.mk trivial))
  conv => whnf
  repeat (first | (refine And.intro ?_ ?_; rotate_left; conv => whnf) | (refine .inl (And.intro ?_ ?_); rotate_left; conv => whnf))
  refine ⟨fun h4 => ?_, fun h4 => ?_⟩
  · have h4 : g.volume < roomV g d v + b.length := by
      have h4 := of_decide_eq_true h4
      omega
    have e : appendG g d v b = (devNil, 8) := by simp [appendG, h, h2, h4]
    conv => whnf
    repeat (first | (refine And.intro ?_ ?_; rotate_left; conv => whnf) | (refine .inl (And.intro ?_ ?_); rotate_left; conv => whnf))
    all_goals (try rw [e])
    all_goals try (first | with_reducible rfl | with_reducible exact NC.Eqv.refl _ | exact NC.Eqv.refl _ | exact trivial | with_reducible exact (fun _ _ _ _ => NC.Eqv.refl _) | exact (fun _ _ _ _ => NC.Eqv.refl _) | (refine Ob.mk ?_; first | with_reducible rfl | omega | (dsimp only; omega) | rfl | exact trivial | (refine i64_of ?_ ?_ <;> omega) | (simp only [tB, Nat.zero_add, Int.toNat_natCast, true_and, and_true]; done) | (simp only [tB, Nat.zero_add, Int.toNat_natCast, true_and, and_true]; omega) | (intro _; first | omega | exact trivial | (refine i64_of ?_ ?_ <;> omega)) | exact ⟨rfl, fun _ _ => trivial⟩ | exact (fun _ => ⟨rfl, fun _ _ => trivial⟩) | ((repeat' (apply And.intro)) <;> first | rfl | exact trivial | (simp only [tB, Nat.zero_add, Int.toNat_natCast, true_and, and_true]; omega) | omega)) | omega | ((repeat' (apply And.intro)) <;> first | rfl | exact trivial | (simp only [tB, Nat.zero_add, Int.toNat_natCast, true_and, and_true]; omega) | omega | exact .inl rfl) | ((conv => whnf); (repeat' (apply And.intro)) <;> first | rfl | exact Ob.mk rfl | exact Ob.mk trivial))
  have h4 : ¬ g.volume < roomV g d v + b.length := by
    have h4 := of_decide_eq_false h4
    omega
  conv => whnf
  repeat (first | (refine And.intro ?_ ?_; rotate_left; conv => whnf) | (refine .inl (And.intro ?_ ?_); rotate_left; conv => whnf))
  refine ⟨d, ?_⟩
  conv => whnf
  repeat (first | (refine And.intro ?_ ?_; rotate_left; conv => whnf) | (refine .inl (And.intro ?_ ?_); rotate_left; conv => whnf))
  intro hr
  conv => whnf
  repeat (first | (refine And.intro ?_ ?_; rotate_left; conv => whnf) | (refine .inl (And.intro ?_ ?_); rotate_left; conv => whnf))
  refine ⟨fun h7 => ?_, fun h7 => ?_⟩
  · have h7 : (spendD d).2 ≠ 0 := by simpa using h7
    have e : appendG g d v b = (devNil, (spendD d).2) := by simp [appendG, h, h2, h4, h7]
    conv => whnf
    repeat (first | (refine And.intro ?_ ?_; rotate_left; conv => whnf) | (refine .inl (And.intro ?_ ?_); rotate_left; conv => whnf))
    all_goals (try rw [e])
    all_goals try (first | with_reducible rfl | with_reducible exact NC.Eqv.refl _ | exact NC.Eqv.refl _ | exact trivial | with_reducible exact (fun _ _ _ _ => NC.Eqv.refl _) | exact (fun _ _ _ _ => NC.Eqv.refl _) | (refine Ob.mk ?_; first | with_reducible rfl | omega | (dsimp only; omega) | rfl | exact trivial | (refine i64_of ?_ ?_ <;> omega) | (simp only [tB, Nat.zero_add, Int.toNat_natCast, true_and, and_true]; done) | (simp only [tB, Nat.zero_add, Int.toNat_natCast, true_and, and_true]; omega) | (intro _; first | omega | exact trivial | (refine i64_of ?_ ?_ <;> omega)) | exact ⟨rfl, fun _ _ => trivial⟩ | exact (fun _ => ⟨rfl, fun _ _ => trivial⟩) | ((repeat' (apply And.intro)) <;> first | rfl | exact trivial | (simp only [tB, Nat.zero_add, Int.toNat_natCast, true_and, and_true]; omega) | omega)) | omega | ((repeat' (apply And.intro)) <;> first | rfl | exact trivial | (simp only [tB, Nat.zero_add, Int.toNat_natCast, true_and, and_true]; omega) | omega | exact .inl rfl) | ((conv => whnf); (repeat' (apply And.intro)) <;> first | rfl | exact Ob.mk rfl | exact Ob.mk trivial))
  have h7 : (spendD d).2 = 0 := by simpa using h7
  have e : appendG g d v b = (appV g d v b, 0) := by simp [appendG, h, h2, h4, h7]
  have hk : v.toNat < (volsV g d v).length := by omega
  have hX := room_eq g d v
  have e2 : spendD d = ({ d with fuel := (spendD d).1.fuel }, 0) := spendD_ok h7
  rw [e2]
  dsimp only
  conv => whnf
  refine ⟨Unit, [2, 3, 8, 9, 13], fun _ => [], fun _ => [(1144, .var [.own 1080 1 0 d.safe.length, .own 1081 2 0 d.cache.length, .own 122 3 0 (volsV g d v).length, .int .i64 (spendD d).1.fuel]), (122, .arr 3 40 (volsV g d v).length none (vN (volsV g d v)) none)], ?_, fun _ => ?_⟩
  · conv => whnf
    repeat (first | (refine And.intro ?_ ?_; rotate_left; conv => whnf) | (refine .inl (And.intro ?_ ?_); rotate_left; conv => whnf))
    refine ⟨fun h3 => ?_, fun h3 => ?_⟩
    · have hs : volsV g d v = d.vols ++ [default] := by simp [volsV, show freshV g d v = true from h3]
      rw [hs]
      conv => whnf
      repeat (first | (refine And.intro ?_ ?_; rotate_left; conv => whnf) | (refine .inl (And.intro ?_ ?_); rotate_left; conv => whnf))
      refine ⟨(), ?_⟩
      conv => whnf
      repeat (first | (refine And.intro ?_ ?_; rotate_left; conv => whnf) | (refine .inl (And.intro ?_ ?_); rotate_left; conv => whnf))
      all_goals try (first | with_reducible rfl | with_reducible exact NC.Eqv.refl _ | exact NC.Eqv.refl _ | exact trivial | with_reducible exact (fun _ _ _ _ => NC.Eqv.refl _) | exact (fun _ _ _ _ => NC.Eqv.refl _) | (refine Ob.mk ?_; first | with_reducible rfl | omega | (dsimp only; omega) | rfl | exact trivial | (refine i64_of ?_ ?_ <;> omega) | (simp only [tB, Nat.zero_add, Int.toNat_natCast, true_and, and_true]; done) | (simp only [tB, Nat.zero_add, Int.toNat_natCast, true_and, and_true]; omega) | (intro _; first | omega | exact trivial | (refine i64_of ?_ ?_ <;> omega)) | exact ⟨rfl, fun _ _ => trivial⟩ | exact (fun _ => ⟨rfl, fun _ _ => trivial⟩) | ((repeat' (apply And.intro)) <;> first | rfl | exact trivial | (simp only [tB, Nat.zero_add, Int.toNat_natCast, true_and, and_true]; omega) | omega)) | omega | ((repeat' (apply And.intro)) <;> first | rfl | exact trivial | (simp only [tB, Nat.zero_add, Int.toNat_natCast, true_and, and_true]; omega) | omega | exact .inl rfl) | ((conv => whnf); (repeat' (apply And.intro)) <;> first | rfl | exact Ob.mk rfl | exact Ob.mk trivial))
      · exact ⟨rfl, rfl, by simp⟩
      · exact ⟨rfl, rfl, by simp, .inl rfl⟩
      · refine app_rows (α := Vol) (f := vN1) (d := default) (l := d.vols) (r := [default]) rfl fun i hi j hj => ?_
        have e1 : i = 0 := by simp at hi; omega
        have hj : j < 3 := hj
        subst e1
        match j, hj with
        | 0, _ => exact ⟨rfl, rfl, rfl, fun i hi => absurd hi (by omega)⟩
        | 1, _ => exact NC.Eqv.refl _
        | 2, _ => exact NC.Eqv.refl _
    · have hs : volsV g d v = d.vols := by simp [volsV, show freshV g d v = false from h3]
      rw [hs]
      conv => whnf
      repeat (first | (refine And.intro ?_ ?_; rotate_left; conv => whnf) | (refine .inl (And.intro ?_ ?_); rotate_left; conv => whnf))
      refine ⟨(), ?_⟩
      conv => whnf
      repeat (first | (refine And.intro ?_ ?_; rotate_left; conv => whnf) | (refine .inl (And.intro ?_ ?_); rotate_left; conv => whnf))
      all_goals try (first | with_reducible rfl | with_reducible exact NC.Eqv.refl _ | exact NC.Eqv.refl _ | exact trivial | with_reducible exact (fun _ _ _ _ => NC.Eqv.refl _) | exact (fun _ _ _ _ => NC.Eqv.refl _) | (refine Ob.mk ?_; first | with_reducible rfl | omega | (dsimp only; omega) | rfl | exact trivial | (refine i64_of ?_ ?_ <;> omega) | (simp only [tB, Nat.zero_add, Int.toNat_natCast, true_and, and_true]; done) | (simp only [tB, Nat.zero_add, Int.toNat_natCast, true_and, and_true]; omega) | (intro _; first | omega | exact trivial | (refine i64_of ?_ ?_ <;> omega)) | exact ⟨rfl, fun _ _ => trivial⟩ | exact (fun _ => ⟨rfl, fun _ _ => trivial⟩) | ((repeat' (apply And.intro)) <;> first | rfl | exact trivial | (simp only [tB, Nat.zero_add, Int.toNat_natCast, true_and, and_true]; omega) | omega)) | omega | ((repeat' (apply And.intro)) <;> first | rfl | exact trivial | (simp only [tB, Nat.zero_add, Int.toNat_natCast, true_and, and_true]; omega) | omega | exact .inl rfl) | ((conv => whnf); (repeat' (apply And.intro)) <;> first | rfl | exact Ob.mk rfl | exact Ob.mk trivial))
  have hL : (volsV g d v).length = (appV g d v b).vols.length := by simp [appV]
  conv => whnf
  repeat (first | (refine And.intro ?_ ?_; rotate_left; conv => whnf) | (refine .inl (And.intro ?_ ?_); rotate_left; conv => whnf))
  refine ⟨[((volsV g d v).getD v.toNat default).data, b], ?_⟩
  conv => whnf
  repeat (first | (refine And.intro ?_ ?_; rotate_left; conv => whnf) | (refine .inl (And.intro ?_ ?_); rotate_left; conv => whnf))
  intro hr
  conv => whnf
  repeat (first | (refine And.intro ?_ ?_; rotate_left; conv => whnf) | (refine .inl (And.intro ?_ ?_); rotate_left; conv => whnf))
  all_goals (try rw [e])
  all_goals try (first | with_reducible rfl | with_reducible exact NC.Eqv.refl _ | exact NC.Eqv.refl _ | exact trivial | with_reducible exact (fun _ _ _ _ => NC.Eqv.refl _) | exact (fun _ _ _ _ => NC.Eqv.refl _) | (refine Ob.mk ?_; first | with_reducible rfl | omega | (dsimp only; omega) | rfl | exact trivial | (refine i64_of ?_ ?_ <;> omega) | (simp only [tB, Nat.zero_add, Int.toNat_natCast, true_and, and_true]; done) | (simp only [tB, Nat.zero_add, Int.toNat_natCast, true_and, and_true]; omega) | (intro _; first | omega | exact trivial | (refine i64_of ?_ ?_ <;> omega)) | exact ⟨rfl, fun _ _ => trivial⟩ | exact (fun _ => ⟨rfl, fun _ _ => trivial⟩) | ((repeat' (apply And.intro)) <;> first | rfl | exact trivial | (simp only [tB, Nat.zero_add, Int.toNat_natCast, true_and, and_true]; omega) | omega)) | omega | ((repeat' (apply And.intro)) <;> first | rfl | exact trivial | (simp only [tB, Nat.zero_add, Int.toNat_natCast, true_and, and_true]; omega) | omega | exact .inl rfl) | ((conv => whnf); (repeat' (apply And.intro)) <;> first | rfl | exact Ob.mk rfl | exact Ob.mk trivial))
  · refine ⟨?_⟩
    show ([((volsV g d v).getD v.toNat default).data, b] : List (List UInt8)).flatten.length ≤ 140737488355328
    have e : ([((volsV g d v).getD v.toNat default).data, b] : List (List UInt8)).flatten.length = ((volsV g d v).getD v.toNat default).data.length + b.length := by simp
    omega
  · refine ⟨rfl, Nat.le_refl _, ?_⟩
    simp only [Nat.zero_add, tB]
    refine ⟨rfl, rfl, rfl, fun i hi j hj => ?_⟩
    have e2 : j = 0 := by omega
    subst e2
    match i, hi with
    | 0, _ => exact FC.Eqv.refl _
    | 1, _ => exact FC.Eqv.refl _
  · have := vols_upd (volsV g d v) v.toNat b hk (y := NC.uq 1 1 ([((volsV g d v).getD v.toNat default).data, b] : List (List UInt8)).flatten.length (bN ([((volsV g d v).getD v.toNat default).data, b] : List (List UInt8)).flatten))
      (by
        have e : ([((volsV g d v).getD v.toNat default).data, b] : List (List UInt8)).flatten = ((volsV g d v).getD v.toNat default).data ++ b := by simp
        rw [e]
        exact NC.Eqv.refl _)
    simp only [Nat.zero_add]
    exact this
theorem fnOk9 : FnOk Try.prog 9 := ⟨Try.f9, rfl, by decide, rfl⟩
theorem fnOk11 : FnOk Try.prog 11 := ⟨Try.f11, rfl, by decide, rfl⟩
theorem fnOk12 : FnOk Try.prog 12 := ⟨Try.f12, rfl, by decide, rfl⟩
def L14 : List (Nat × FSpec) := (9, S9) :: (11, S9) :: (12, S12) :: L13
theorem Γ14 : ΓOk Try.prog (lkG L14) := (((Γ13).cons fnOk12 ok12).cons fnOk11 ok11).cons fnOk9 ok9
theorem devUnf (d : Dev) : (FC.sl 1 24 d.safe.length fun i j => (lN d.safe (0 + i) j).unf).Eqv (lSl d.safe) ∧ (FC.sl 2 32 d.cache.length fun i j => (wN d.cache (0 + i) j).unf).Eqv (wSl d.cache) ∧ (FC.sl 3 40 d.vols.length fun i j => (vN d.vols (0 + i) j).unf).Eqv (vSl d.vols) := by
  simp only [Nat.zero_add]
  refine ⟨⟨rfl, rfl, rfl, fun i hi j hj => FC.Eqv.refl _⟩, ⟨rfl, rfl, rfl, fun i hi j hj => ?_⟩, ⟨rfl, rfl, rfl, fun i hi j hj => ?_⟩⟩
  · match j, hj with
    | 0, _ => exact FC.Eqv.refl _
    | 1, _ => exact FC.Eqv.refl _
  · match j, hj with
    | 0, _ => exact FC.Eqv.refl _
    | 1, _ => exact FC.Eqv.refl _
    | 2, _ => exact FC.Eqv.refl _
theorem bUnf (b : List UInt8) : (FC.sl 1 1 b.length fun i j => (bN b (0 + i) j).unf).Eqv (bSl b) := by
  simp only [Nat.zero_add]
  exact ⟨rfl, rfl, rfl, fun i hi j hj => FC.Eqv.refl _⟩
def S3 : FSpec where
  D := ArgV
  pre _ := True
  args := fun ⟨g, d, v, b⟩ => [.agg g.cells, .agg (devC d), .int .i64 v, .c (.nc (.f (bSl b)))]
  hin _ := []
  res _ := .e (.bool true)
  hout _ := []
  lend := true
  lends := fun _ d _ => ⟨trivial, fun i B h => by cases h⟩
theorem ok3 : S3.Ok Try.prog 3 := by
  refine FSpec.okN [] (fn := Try.f3) (c := Try.f3.body.getD .skip) TOk_T mixed Γ14 rfl rfl (fun d => rfl) ?_
  rintro ⟨g, d, v, b⟩ hp hf hh
  conv => whnf
  repeat (first | (refine And.intro ?_ ?_; rotate_left; conv => whnf) | (refine .inl (And.intro ?_ ?_); rotate_left; conv => whnf))
  refine ⟨d, ?_⟩
  conv => whnf
  repeat (first | (refine And.intro ?_ ?_; rotate_left; conv => whnf) | (refine .inl (And.intro ?_ ?_); rotate_left; conv => whnf))
  intro hr
  conv => whnf
  repeat (first | (refine And.intro ?_ ?_; rotate_left; conv => whnf) | (refine .inl (And.intro ?_ ?_); rotate_left; conv => whnf))
  refine ⟨b, ?_⟩
  conv => whnf
  repeat (first | (refine And.intro ?_ ?_; rotate_left; conv => whnf) | (refine .inl (And.intro ?_ ?_); rotate_left; conv => whnf))
  intro hr
  conv => whnf
  repeat (first | (refine And.intro ?_ ?_; rotate_left; conv => whnf) | (refine .inl (And.intro ?_ ?_); rotate_left; conv => whnf))
  refine ⟨⟨g, d, v, b⟩, ?_⟩
  conv => whnf
  repeat (first | (refine And.intro ?_ ?_; rotate_left; conv => whnf) | (refine .inl (And.intro ?_ ?_); rotate_left; conv => whnf))
  intro hr
  conv => whnf
  repeat (first | (refine And.intro ?_ ?_; rotate_left; conv => whnf) | (refine .inl (And.intro ?_ ?_); rotate_left; conv => whnf))
  refine ⟨⟨g, d, v, b⟩, ?_⟩
  conv => whnf
  repeat (first | (refine And.intro ?_ ?_; rotate_left; conv => whnf) | (refine .inl (And.intro ?_ ?_); rotate_left; conv => whnf))
  intro hr
  conv => whnf
  repeat (first | (refine And.intro ?_ ?_; rotate_left; conv => whnf) | (refine .inl (And.intro ?_ ?_); rotate_left; conv => whnf))
  refine ⟨(appendG g d v b).1, ?_⟩
  conv => whnf
  repeat (first | (refine And.intro ?_ ?_; rotate_left; conv => whnf) | (refine .inl (And.intro ?_ ?_); rotate_left; conv => whnf))
  intro hr
  conv => whnf
  repeat (first | (refine And.intro ?_ ?_; rotate_left; conv => whnf) | (refine .inl (And.intro ?_ ?_); rotate_left; conv => whnf))
  refine ⟨d, ?_⟩
  conv => whnf
  repeat (first | (refine And.intro ?_ ?_; rotate_left; conv => whnf) | (refine .inl (And.intro ?_ ?_); rotate_left; conv => whnf))
  intro hr
  conv => whnf
  repeat (first | (refine And.intro ?_ ?_; rotate_left; conv => whnf) | (refine .inl (And.intro ?_ ?_); rotate_left; conv => whnf))
  all_goals try (first | with_reducible rfl | with_reducible exact NC.Eqv.refl _ | exact NC.Eqv.refl _ | exact trivial | with_reducible exact (fun _ _ _ _ => NC.Eqv.refl _) | exact (fun _ _ _ _ => NC.Eqv.refl _) | (refine Ob.mk ?_; first | with_reducible rfl | omega | (dsimp only; omega) | rfl | exact trivial | (refine i64_of ?_ ?_ <;> omega) | (simp only [tB, Nat.zero_add, Int.toNat_natCast, true_and, and_true]; done) | (simp only [tB, Nat.zero_add, Int.toNat_natCast, true_and, and_true]; omega) | (intro _; first | omega | exact trivial | (refine i64_of ?_ ?_ <;> omega)) | exact ⟨rfl, fun _ _ => trivial⟩ | exact (fun _ => ⟨rfl, fun _ _ => trivial⟩) | ((repeat' (apply And.intro)) <;> first | rfl | exact trivial | (simp only [tB, Nat.zero_add, Int.toNat_natCast, true_and, and_true]; omega) | omega)) | omega | ((repeat' (apply And.intro)) <;> first | rfl | exact trivial | (simp only [tB, Nat.zero_add, Int.toNat_natCast, true_and, and_true]; omega) | omega | exact .inl rfl) | ((conv => whnf); (repeat' (apply And.intro)) <;> first | rfl | exact Ob.mk rfl | exact Ob.mk trivial))
  all_goals first
    | exact ⟨rfl, by omega, (devUnf _).1⟩
    | exact ⟨rfl, by omega, (devUnf _).2.1⟩
    | exact ⟨rfl, by omega, (devUnf _).2.2⟩
    | exact ⟨rfl, by omega, bUnf _⟩
    | exact boolEqv (by simp)
end Go.Ice.S1
end

section
set_option linter.unusedVariables false
set_option linter.unusedSimpArgs false
set_option maxRecDepth 20000
namespace Go.Ice.S1
open Go.Proofs
theorem sound : Sound Try.prog := Sound.mk' (by kernel_rfl) (by kernel_rfl) (by kernel_rfl)
theorem ownKnobN : ownKnob Try.prog.godebug = none := by kernel_rfl
theorem op_int : Opens Try.prog 3 1 Int (fun n _ => .int .i64 n) := opens_int Try.underlying3 (by kernel_rfl)
theorem op_bool : Opens Try.prog 4 1 Bool (fun b _ => .bool b) := opens_bool Try.underlying4 (by kernel_rfl)
theorem op_str : Opens Try.prog 9 1 (List UInt8) (fun b _ => .str b) := opens_str Try.underlying9 (by kernel_rfl)
def u8of (n : Int) : UInt8 := UInt8.ofNat n.toNat
structure U8In (P : Program) (t : TypeId) : Prop where
  ht : P.underlying t = some (.int .u8)
  hs : P.cellsOf t = 1
theorem op_u8 : Opens Try.prog 5 1 UInt8 (fun b _ => .int .u8 b.toNat) := by
  refine ⟨by kernel_rfl, by omega, fun H enc w sp held fuel cs d ps h _ => ?_⟩
  obtain ⟨n, rfl, _, hw⟩ := DataW.trod_int Try.underlying5 h
  have hx : 0 ≤ n ∧ n ≤ 255 := by simpa [Lit.wf, IntKind.min, IntKind.max, IntKind.signed, IntKind.bits] using hw
  refine ⟨UInt8.ofNat n.toNat, rfl, fun j hj => ?_⟩
  have : j = 0 := by omega
  subst this
  have e : ((UInt8.ofNat n.toNat).toNat : Int) = n := by
    have : n.toNat < 256 := by omega
    simp [UInt8.toNat_ofNat']
    omega
  refine ⟨_, rfl, ?_⟩
  rw [e]
  exact ⟨rfl, by simpa [Lit.wf, inK] using hw⟩
theorem op_bytes : Opens Try.prog 29 1 (List UInt8) (fun b _ => bSl b) := opens_slice Try.underlying29 (by kernel_rfl) op_u8 (bw := 1) (by kernel_rfl) (by omega) 0
theorem op_safe : Opens Try.prog 24 1 (List (List UInt8)) (fun b _ => lSl b) := opens_slice Try.underlying24 (by kernel_rfl) op_bytes (bw := 24) (by kernel_rfl) (by omega) []
def gF (g : Geo) : Nat → FC
  | 0 => .int .i64 g.ring
  | 1 => .int .i64 g.area
  | 2 => .int .i64 g.hot
  | 3 => .int .i64 g.volume
  | _ => .int .i64 g.volumes
def dF (d : Dev) : Nat → FC
  | 0 => lSl d.safe
  | 1 => wSl d.cache
  | 2 => vSl d.vols
  | _ => .int .i64 d.fuel
theorem op_geo : Opens Try.prog 23 5 Geo gF := by
  refine ⟨by kernel_rfl, by omega, fun H enc w sp held fuel cs d ps h hw => ?_⟩
  obtain ⟨hl, hk⟩ := trod_fields Try.underlying23 [⟨0, 3, 1, Int, _, op_int⟩, ⟨1, 3, 1, Int, _, op_int⟩, ⟨2, 3, 1, Int, _, op_int⟩, ⟨3, 3, 1, Int, _, op_int⟩, ⟨4, 3, 1, Int, _, op_int⟩] rfl h hw
  have hl : cs.length = 5 := hl.trans (by kernel_rfl)
  obtain ⟨a0, h0⟩ := hk 0 _ rfl
  obtain ⟨a1, h1⟩ := hk 1 _ rfl
  obtain ⟨a2, h2⟩ := hk 2 _ rfl
  obtain ⟨a3, h3⟩ := hk 3 _ rfl
  obtain ⟨a4, h4⟩ := hk 4 _ rfl
  refine ⟨⟨a0, a1, a2, a3, a4⟩, hl, fun j hj => ?_⟩
  match j, hj with
  | 0, _ => exact h0 0 (by decide)
  | 1, _ => exact h1 0 (by decide)
  | 2, _ => exact h2 0 (by decide)
  | 3, _ => exact h3 0 (by decide)
  | 4, _ => exact h4 0 (by decide)
  | j + 5, hj => omega
theorem op_wr : Opens Try.prog 60 2 Wr wF1 := by
  refine ⟨by kernel_rfl, by omega, fun H enc w sp held fuel cs d ps h hw => ?_⟩
  obtain ⟨hl, hk⟩ := trod_fields Try.underlying60 [⟨0, 3, 1, Int, _, op_int⟩, ⟨1, 29, 1, _, _, op_bytes⟩] rfl h hw
  have hl : cs.length = 2 := hl.trans (by kernel_rfl)
  obtain ⟨a0, h0⟩ := hk 0 _ rfl
  obtain ⟨a1, h1⟩ := hk 1 _ rfl
  refine ⟨⟨a0, a1⟩, hl, fun j hj => ?_⟩
  match j, hj with
  | 0, _ => exact h0 0 (by decide)
  | 1, _ => exact h1 0 (by decide)
  | j + 2, hj => omega
theorem op_vol : Opens Try.prog 62 3 Vol vF1 := by
  refine ⟨by kernel_rfl, by omega, fun H enc w sp held fuel cs d ps h hw => ?_⟩
  obtain ⟨hl, hk⟩ := trod_fields Try.underlying62 [⟨0, 29, 1, _, _, op_bytes⟩, ⟨1, 3, 1, Int, _, op_int⟩, ⟨2, 4, 1, _, _, op_bool⟩] rfl h hw
  have hl : cs.length = 3 := hl.trans (by kernel_rfl)
  obtain ⟨a0, h0⟩ := hk 0 _ rfl
  obtain ⟨a1, h1⟩ := hk 1 _ rfl
  obtain ⟨a2, h2⟩ := hk 2 _ rfl
  refine ⟨⟨a0, a1, a2⟩, hl, fun j hj => ?_⟩
  match j, hj with
  | 0, _ => exact h0 0 (by decide)
  | 1, _ => exact h1 0 (by decide)
  | 2, _ => exact h2 0 (by decide)
  | j + 3, hj => omega
theorem op_wrs : Opens Try.prog 25 1 (List Wr) (fun b _ => wSl b) := opens_slice Try.underlying25 (by kernel_rfl) op_wr (bw := 32) (by kernel_rfl) (by omega) default
theorem op_vols : Opens Try.prog 26 1 (List Vol) (fun b _ => vSl b) := opens_slice Try.underlying26 (by kernel_rfl) op_vol (bw := 40) (by kernel_rfl) (by omega) default
theorem op_dev : Opens Try.prog 28 4 Dev dF := by
  refine ⟨by kernel_rfl, by omega, fun H enc w sp held fuel cs d ps h hw => ?_⟩
  obtain ⟨hl, hk⟩ := trod_fields Try.underlying28 [⟨0, 24, 1, _, _, op_safe⟩, ⟨1, 25, 1, _, _, op_wrs⟩, ⟨2, 26, 1, _, _, op_vols⟩, ⟨3, 3, 1, Int, _, op_int⟩] rfl h hw
  have hl : cs.length = 4 := hl.trans (by kernel_rfl)
  obtain ⟨a0, h0⟩ := hk 0 _ rfl
  obtain ⟨a1, h1⟩ := hk 1 _ rfl
  obtain ⟨a2, h2⟩ := hk 2 _ rfl
  obtain ⟨a3, h3⟩ := hk 3 _ rfl
  refine ⟨⟨a0, a1, a2, a3⟩, hl, fun j hj => ?_⟩
  match j, hj with
  | 0, _ => exact h0 0 (by decide)
  | 1, _ => exact h1 0 (by decide)
  | 2, _ => exact h2 0 (by decide)
  | 3, _ => exact h3 0 (by decide)
  | j + 4, hj => omega
theorem cl_geo : ∀ a : Geo, (Geo.cells a).length = 5 ∧ ∀ j c, (Geo.cells a)[j]? = some c → c = Cell.nc (.f (gF a j)) := fun a => ⟨rfl, fun j c h => by
  match j, h with
  | 0, h => exact (Option.some.inj h).symm
  | 1, h => exact (Option.some.inj h).symm
  | 2, h => exact (Option.some.inj h).symm
  | 3, h => exact (Option.some.inj h).symm
  | 4, h => exact (Option.some.inj h).symm
  | j + 5, h => cases h⟩
theorem cl_dev : ∀ a : Dev, (devC a).length = 4 ∧ ∀ j c, (devC a)[j]? = some c → c = Cell.nc (.f (dF a j)) := fun a => ⟨rfl, fun j c h => by
  match j, h with
  | 0, h => exact (Option.some.inj h).symm
  | 1, h => exact (Option.some.inj h).symm
  | 2, h => exact (Option.some.inj h).symm
  | 3, h => exact (Option.some.inj h).symm
  | j + 4, h => cases h⟩
end Go.Ice.S1
end
