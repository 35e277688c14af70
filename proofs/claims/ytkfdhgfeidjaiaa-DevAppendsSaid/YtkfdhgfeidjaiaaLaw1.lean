/-
  Part of the proof of: The law DevAppends returns true at every input and leaves its arguments as they were. Conditions: those of the given row alone; no hypothesis is added.
-/
import Derived.Test.YtkfdhgfeidjaiaaProg
import Derived.KernelRfl
import Derived.Test.YtkfdhgfeidjaiaaIce4
section
namespace Go.Ice.S1
open Go.Proofs
def tab : List (Nat × TI) := 
[(2, ⟨.int .i64, 1, 8, [.int .i64]⟩),
  (3, ⟨.int .i64, 1, 8, [.int .i64]⟩),
  (4, ⟨.bool, 1, 1, [.bool]⟩),
  (5, ⟨.int .u8, 1, 1, [.int .u8]⟩),
  (6, ⟨.int .u8, 1, 1, [.int .u8]⟩),
  (7, ⟨.strct [(0, 1), (1, 1), (2, 1), (3, 1)], 4, 24, [.int .i64, .int .i64, .bool, .int .u8]⟩),
  (8, ⟨.strct [(0, 1), (1, 1), (2, 1), (3, 1)], 4, 24, [.int .i64, .int .i64, .bool, .int .u8]⟩),
  (9, ⟨.str, 1, 16, [.str]⟩),
  (10, ⟨.str, 1, 16, [.str]⟩),
  (11, ⟨.str, 1, 16, [.str]⟩),
  (12, ⟨.int .u64, 1, 8, [.int .u64]⟩),
  (13, ⟨.strct [(0, 1), (1, 1)], 2, 24, [.str, .int .u64]⟩),
  (14, ⟨.strct [(0, 1), (1, 1)], 2, 24, [.str, .int .u64]⟩),
  (15, ⟨.other, 1, 8, [.any]⟩),
  (16, ⟨.other, 1, 8, [.any]⟩),
  (17, ⟨.other, 1, 8, [.any]⟩),
  (18, ⟨.strct [(0, 1)], 1, 8, [.any]⟩),
  (19, ⟨.strct [(0, 1)], 1, 8, [.any]⟩),
  (21, ⟨.int .i32, 1, 4, [.int .i32]⟩),
  (22, ⟨.strct [(0, 1), (1, 1), (2, 1), (3, 1), (4, 1)], 5, 40, [.int .i64, .int .i64, .int .i64, .int .i64, .int .i64]⟩),
  (23, ⟨.strct [(0, 1), (1, 1), (2, 1), (3, 1), (4, 1)], 5, 40, [.int .i64, .int .i64, .int .i64, .int .i64, .int .i64]⟩),
  (24, ⟨.slice 29, 1, 24, [.nil]⟩),
  (25, ⟨.slice 60, 1, 24, [.nil]⟩),
  (26, ⟨.slice 62, 1, 24, [.nil]⟩),
  (27, ⟨.strct [(0, 1), (1, 1), (2, 1), (3, 1)], 4, 80, [.nil, .nil, .nil, .int .i64]⟩),
  (28, ⟨.strct [(0, 1), (1, 1), (2, 1), (3, 1)], 4, 80, [.nil, .nil, .nil, .int .i64]⟩),
  (29, ⟨.slice 5, 1, 24, [.nil]⟩),
  (31, ⟨.int .i64, 1, 8, [.int .i64]⟩),
  (37, ⟨.slice 76, 1, 24, [.nil]⟩),
  (38, ⟨.slice 80, 1, 24, [.nil]⟩),
  (39, ⟨.slice 84, 1, 24, [.nil]⟩),
  (40, ⟨.slice 89, 1, 24, [.nil]⟩),
  (41, ⟨.slice 3, 1, 24, [.nil]⟩),
  (42, ⟨.strct [(0, 1), (1, 1), (2, 1), (3, 1), (4, 1), (5, 1), (6, 1)], 7, 136, [.int .i64, .int .i64, .nil, .nil, .nil, .nil, .nil]⟩),
  (43, ⟨.strct [(0, 1), (1, 1), (2, 1), (3, 1), (4, 1), (5, 1), (6, 1)], 7, 136, [.int .i64, .int .i64, .nil, .nil, .nil, .nil, .nil]⟩),
  (51, ⟨.slice 121, 1, 24, [.nil]⟩),
  (59, ⟨.strct [(0, 1), (1, 1)], 2, 32, [.int .i64, .nil]⟩),
  (60, ⟨.strct [(0, 1), (1, 1)], 2, 32, [.int .i64, .nil]⟩),
  (61, ⟨.strct [(0, 1), (1, 1), (2, 1)], 3, 40, [.nil, .int .i64, .bool]⟩),
  (62, ⟨.strct [(0, 1), (1, 1), (2, 1)], 3, 40, [.nil, .int .i64, .bool]⟩),
  (69, ⟨.other, 1, 8, [.any]⟩),
  (70, ⟨.strct [(0, 1)], 1, 24, [.nil]⟩),
  (71, ⟨.strct [(0, 1)], 1, 24, [.nil]⟩),
  (73, ⟨.strct [(0, 1), (1, 1), (2, 1)], 3, 32, [.str, .int .i64, .int .i64]⟩),
  (74, ⟨.strct [(0, 1), (1, 1), (2, 1)], 3, 32, [.str, .int .i64, .int .i64]⟩),
  (75, ⟨.strct [(0, 1), (1, 1), (2, 3)], 5, 56, [.str, .int .i64, .str, .int .i64, .int .i64]⟩),
  (76, ⟨.strct [(0, 1), (1, 1), (2, 3)], 5, 56, [.str, .int .i64, .str, .int .i64, .int .i64]⟩),
  (79, ⟨.strct [(0, 1), (1, 1), (2, 1), (3, 1), (4, 1), (5, 1), (6, 1), (7, 1), (8, 1), (9, 1), (10, 1), (11, 1)], 12, 120, [.int .i64, .str, .str, .bool, .bool, .int .i64, .int .i64, .int .i64, .nil, .int .i64, .int .i64, .int .i64]⟩),
  (80, ⟨.strct [(0, 1), (1, 1), (2, 1), (3, 1), (4, 1), (5, 1), (6, 1), (7, 1), (8, 1), (9, 1), (10, 1), (11, 1)], 12, 120, [.int .i64, .str, .str, .bool, .bool, .int .i64, .int .i64, .int .i64, .nil, .int .i64, .int .i64, .int .i64]⟩),
  (82, ⟨.slice 86, 1, 24, [.nil]⟩),
  (83, ⟨.strct [(0, 1), (1, 1), (2, 1), (3, 1)], 4, 64, [.int .i64, .str, .str, .nil]⟩),
  (84, ⟨.strct [(0, 1), (1, 1), (2, 1), (3, 1)], 4, 64, [.int .i64, .str, .str, .nil]⟩),
  (85, ⟨.strct [(0, 1), (1, 1), (2, 1)], 3, 40, [.int .i64, .int .i64, .nil]⟩),
  (86, ⟨.strct [(0, 1), (1, 1), (2, 1)], 3, 40, [.int .i64, .int .i64, .nil]⟩),
  (88, ⟨.strct [(0, 1), (1, 1), (2, 1)], 3, 24, [.int .i64, .int .i64, .int .i64]⟩),
  (89, ⟨.strct [(0, 1), (1, 1), (2, 1)], 3, 24, [.int .i64, .int .i64, .int .i64]⟩),
  (99, ⟨.other, 1, 8, [.any]⟩),
  (100, ⟨.strct [(0, 1), (1, 1)], 2, 32, [.nil, .int .i64]⟩),
  (101, ⟨.strct [(0, 1), (1, 1)], 2, 32, [.nil, .int .i64]⟩),
  (111, ⟨.other, 1, 8, [.any]⟩),
  (112, ⟨.strct [(0, 1), (1, 1), (2, 1)], 3, 40, [.nil, .int .i64, .int .i64]⟩),
  (113, ⟨.strct [(0, 1), (1, 1), (2, 1)], 3, 40, [.nil, .int .i64, .int .i64]⟩),
  (118, ⟨.slice 38, 1, 24, [.nil]⟩),
  (120, ⟨.strct [(0, 1), (1, 1), (2, 1), (3, 1), (4, 1), (5, 1), (6, 1)], 7, 56, [.str, .bool, .int .i64, .bool, .bool, .int .i64, .int .i64]⟩),
  (121, ⟨.strct [(0, 1), (1, 1), (2, 1), (3, 1), (4, 1), (5, 1), (6, 1)], 7, 56, [.str, .bool, .int .i64, .bool, .bool, .int .i64, .int .i64]⟩),
  (135, ⟨.map 3 4, 1, 8, [.any]⟩),
  (136, ⟨.map 3 4, 1, 8, [.any]⟩),
  (148, ⟨.int .u64, 1, 8, [.int .u64]⟩),
  (161, ⟨.arr 3 3, 3, 24, [.int .i64, .int .i64, .int .i64]⟩),
  (162, ⟨.slice 161, 1, 24, [.nil]⟩),
  (166, ⟨.map 168 4, 1, 8, [.any]⟩),
  (168, ⟨.arr 2 9, 2, 32, [.str, .str]⟩),
  (189, ⟨.int .i64, 1, 8, [.int .i64]⟩),
  (196, ⟨.int .u32, 1, 4, [.int .u32]⟩),
  (198, ⟨.int .u64, 1, 8, [.int .u64]⟩),
  (201, ⟨.int .u64, 1, 8, [.int .u64]⟩),
  (205, ⟨.other, 1, 8, [.any]⟩),
  (208, ⟨.other, 1, 8, [.any]⟩),
  (211, ⟨.strct [(0, 1), (1, 1), (2, 1), (3, 1)], 4, 40, [.any, .any, .any, .str]⟩),
  (212, ⟨.strct [(0, 1), (1, 1), (2, 1), (3, 1)], 4, 40, [.any, .any, .any, .str]⟩),
  (217, ⟨.int .u8, 1, 1, [.int .u8]⟩),
  (218, ⟨.int .u8, 1, 1, [.int .u8]⟩),
  (220, ⟨.other, 1, 8, [.any]⟩),
  (221, ⟨.int .i32, 1, 4, [.int .i32]⟩),
  (222, ⟨.int .i32, 1, 4, [.int .i32]⟩)]
def T : Nat → TI := lkI tab
theorem tab_ok : (tab.all fun x => tiOk Try.prog x.1 x.2) = true := by kernel_rfl
theorem TOk_T : TOk Try.prog T := tOk_tab tab_ok
theorem tB : (T 2).bytes = 8 ∧ (T 2).size = 1 ∧ (T 3).bytes = 8 ∧ (T 3).size = 1 ∧ (T 4).bytes = 1 ∧ (T 4).size = 1 ∧ (T 5).bytes = 1 ∧ (T 5).size = 1 ∧ (T 6).bytes = 1 ∧ (T 6).size = 1 ∧ (T 7).bytes = 24 ∧ (T 7).size = 4 ∧ (T 8).bytes = 24 ∧ (T 8).size = 4 ∧ (T 9).bytes = 16 ∧ (T 9).size = 1 ∧ (T 10).bytes = 16 ∧ (T 10).size = 1 ∧ (T 11).bytes = 16 ∧ (T 11).size = 1 ∧ (T 12).bytes = 8 ∧ (T 12).size = 1 ∧ (T 13).bytes = 24 ∧ (T 13).size = 2 ∧ (T 14).bytes = 24 ∧ (T 14).size = 2 ∧ (T 15).bytes = 8 ∧ (T 15).size = 1 ∧ (T 16).bytes = 8 ∧ (T 16).size = 1 ∧ (T 17).bytes = 8 ∧ (T 17).size = 1 ∧ (T 18).bytes = 8 ∧ (T 18).size = 1 ∧ (T 19).bytes = 8 ∧ (T 19).size = 1 ∧ (T 21).bytes = 4 ∧ (T 21).size = 1 ∧ (T 22).bytes = 40 ∧ (T 22).size = 5 ∧ (T 23).bytes = 40 ∧ (T 23).size = 5 ∧ (T 24).bytes = 24 ∧ (T 24).size = 1 ∧ (T 25).bytes = 24 ∧ (T 25).size = 1 ∧ (T 26).bytes = 24 ∧ (T 26).size = 1 ∧ (T 27).bytes = 80 ∧ (T 27).size = 4 ∧ (T 28).bytes = 80 ∧ (T 28).size = 4 ∧ (T 29).bytes = 24 ∧ (T 29).size = 1 ∧ (T 31).bytes = 8 ∧ (T 31).size = 1 ∧ (T 37).bytes = 24 ∧ (T 37).size = 1 ∧ (T 38).bytes = 24 ∧ (T 38).size = 1 ∧ (T 39).bytes = 24 ∧ (T 39).size = 1 ∧ (T 40).bytes = 24 ∧ (T 40).size = 1 ∧ (T 41).bytes = 24 ∧ (T 41).size = 1 ∧ (T 42).bytes = 136 ∧ (T 42).size = 7 ∧ (T 43).bytes = 136 ∧ (T 43).size = 7 ∧ (T 51).bytes = 24 ∧ (T 51).size = 1 ∧ (T 59).bytes = 32 ∧ (T 59).size = 2 ∧ (T 60).bytes = 32 ∧ (T 60).size = 2 ∧ (T 61).bytes = 40 ∧ (T 61).size = 3 ∧ (T 62).bytes = 40 ∧ (T 62).size = 3 ∧ (T 69).bytes = 8 ∧ (T 69).size = 1 ∧ (T 70).bytes = 24 ∧ (T 70).size = 1 ∧ (T 71).bytes = 24 ∧ (T 71).size = 1 ∧ (T 73).bytes = 32 ∧ (T 73).size = 3 ∧ (T 74).bytes = 32 ∧ (T 74).size = 3 ∧ (T 75).bytes = 56 ∧ (T 75).size = 5 ∧ (T 76).bytes = 56 ∧ (T 76).size = 5 ∧ (T 79).bytes = 120 ∧ (T 79).size = 12 ∧ (T 80).bytes = 120 ∧ (T 80).size = 12 ∧ (T 82).bytes = 24 ∧ (T 82).size = 1 ∧ (T 83).bytes = 64 ∧ (T 83).size = 4 ∧ (T 84).bytes = 64 ∧ (T 84).size = 4 ∧ (T 85).bytes = 40 ∧ (T 85).size = 3 ∧ (T 86).bytes = 40 ∧ (T 86).size = 3 ∧ (T 88).bytes = 24 ∧ (T 88).size = 3 ∧ (T 89).bytes = 24 ∧ (T 89).size = 3 ∧ (T 99).bytes = 8 ∧ (T 99).size = 1 ∧ (T 100).bytes = 32 ∧ (T 100).size = 2 ∧ (T 101).bytes = 32 ∧ (T 101).size = 2 ∧ (T 111).bytes = 8 ∧ (T 111).size = 1 ∧ (T 112).bytes = 40 ∧ (T 112).size = 3 ∧ (T 113).bytes = 40 ∧ (T 113).size = 3 ∧ (T 118).bytes = 24 ∧ (T 118).size = 1 ∧ (T 120).bytes = 56 ∧ (T 120).size = 7 ∧ (T 121).bytes = 56 ∧ (T 121).size = 7 ∧ (T 135).bytes = 8 ∧ (T 135).size = 1 ∧ (T 136).bytes = 8 ∧ (T 136).size = 1 ∧ (T 148).bytes = 8 ∧ (T 148).size = 1 ∧ (T 161).bytes = 24 ∧ (T 161).size = 3 ∧ (T 162).bytes = 24 ∧ (T 162).size = 1 ∧ (T 166).bytes = 8 ∧ (T 166).size = 1 ∧ (T 168).bytes = 32 ∧ (T 168).size = 2 ∧ (T 189).bytes = 8 ∧ (T 189).size = 1 ∧ (T 196).bytes = 4 ∧ (T 196).size = 1 ∧ (T 198).bytes = 8 ∧ (T 198).size = 1 ∧ (T 201).bytes = 8 ∧ (T 201).size = 1 ∧ (T 205).bytes = 8 ∧ (T 205).size = 1 ∧ (T 208).bytes = 8 ∧ (T 208).size = 1 ∧ (T 211).bytes = 40 ∧ (T 211).size = 4 ∧ (T 212).bytes = 40 ∧ (T 212).size = 4 ∧ (T 217).bytes = 1 ∧ (T 217).size = 1 ∧ (T 218).bytes = 1 ∧ (T 218).size = 1 ∧ (T 220).bytes = 8 ∧ (T 220).size = 1 ∧ (T 221).bytes = 4 ∧ (T 221).size = 1 ∧ (T 222).bytes = 4 ∧ (T 222).size = 1 := ⟨rfl, rfl, rfl, rfl, rfl, rfl, rfl, rfl, rfl, rfl, rfl, rfl, rfl, rfl, rfl, rfl, rfl, rfl, rfl, rfl, rfl, rfl, rfl, rfl, rfl, rfl, rfl, rfl, rfl, rfl, rfl, rfl, rfl, rfl, rfl, rfl, rfl, rfl, rfl, rfl, rfl, rfl, rfl, rfl, rfl, rfl, rfl, rfl, rfl, rfl, rfl, rfl, rfl, rfl, rfl, rfl, rfl, rfl, rfl, rfl, rfl, rfl, rfl, rfl, rfl, rfl, rfl, rfl, rfl, rfl, rfl, rfl, rfl, rfl, rfl, rfl, rfl, rfl, rfl, rfl, rfl, rfl, rfl, rfl, rfl, rfl, rfl, rfl, rfl, rfl, rfl, rfl, rfl, rfl, rfl, rfl, rfl, rfl, rfl, rfl, rfl, rfl, rfl, rfl, rfl, rfl, rfl, rfl, rfl, rfl, rfl, rfl, rfl, rfl, rfl, rfl, rfl, rfl, rfl, rfl, rfl, rfl, rfl, rfl, rfl, rfl, rfl, rfl, rfl, rfl, rfl, rfl, rfl, rfl, rfl, rfl, rfl, rfl, rfl, rfl, rfl, rfl, rfl, rfl, rfl, rfl, rfl, rfl, rfl, rfl, rfl, rfl, rfl, rfl, rfl, rfl, rfl, rfl, rfl, rfl, rfl, rfl, rfl, rfl, rfl, rfl, rfl, rfl, rfl, rfl⟩
theorem mixed : Try.prog.follows .mixedOrders = true := by kernel_rfl
end Go.Ice.S1
end

section
set_option linter.unusedVariables false
set_option linter.unusedSimpArgs false
set_option maxRecDepth 20000
namespace Go.Ice.S1
open Go.Proofs
def L0 : List (Nat × FSpec) := []
theorem Γ0 : ΓOk Try.prog (lkG L0) := ΓOk.nil
theorem boolEqv {a b : Bool} (h : a = b) : (NC.f (.bool a)).Eqv (.f (.bool b)) := h
theorem intEqv {k : IntKind} {a b : Int} (h : a = b) : (NC.f (.int k a)).Eqv (.f (.int k b)) := ⟨rfl, h⟩
theorem strEqv {a b : List UInt8} (h : a = b) : (NC.f (.str a)).Eqv (.f (.str b)) := h
def In (n lo hi : Int) : Bool := decide (lo ≤ n) && decide (n ≤ hi)
def S91 : FSpec where
  D := Int × Int × Int
  pre _ := True
  args := fun ⟨n, lo, hi⟩ => [.int .i64 n, .int .i64 lo, .int .i64 hi]
  hin _ := []
  res := fun ⟨n, lo, hi⟩ => .e (.bool (In n lo hi))
  hout _ := []
  lend := true
  lends := fun _ d _ => ⟨trivial, fun i B h => by cases h⟩
theorem ok91 : S91.Ok Try.prog 91 := by
  refine FSpec.okN [] (fn := Try.f91) (c := Try.f91.body.getD .skip) TOk_T mixed Γ0 rfl rfl (fun d => rfl) ?_
  rintro ⟨n, lo, hi⟩ hp hf hh
  conv => whnf
  repeat (first | (refine And.intro ?_ ?_; rotate_left; conv => whnf) | (refine .inl (And.intro ?_ ?_); rotate_left; conv => whnf))
  · exact trivial
  · exact boolEqv (by simp [In])
structure Geo where
  (ring area hot volume volumes : Int)
def Geo.cells (g : Geo) : List Cell := [.int .i64 g.ring, .int .i64 g.area, .int .i64 g.hot, .int .i64 g.volume, .int .i64 g.volumes]
def geoOk (g : Geo) : Bool := In g.ring 4 60 && In g.area 2 80 && In g.hot 2 200 && In g.volume 100 4000 && In g.volumes 1 8
theorem geo_t (a b c d e : Bool) : (bif bif bif bif !a then true else !b then true else !c then true else !d then true else !e) = !(a && b && c && d && e) := by
  cases a <;> cases b <;> cases c <;> cases d <;> cases e <;> rfl
def S89 : FSpec where
  D := Geo
  pre _ := True
  args g := [.agg g.cells]
  hin _ := []
  res g := .e (.int .i64 (if geoOk g then 0 else 2))
  hout _ := []
  lend := true
  lends := fun _ d _ => ⟨trivial, fun i B h => by cases h⟩
theorem fnOk91 : FnOk Try.prog 91 := ⟨Try.f91, rfl, by decide, rfl⟩
def L1 : List (Nat × FSpec) := (91, S91) :: L0
theorem Γ1 : ΓOk Try.prog (lkG L1) := (Γ0).cons fnOk91 ok91
theorem ok89 : S89.Ok Try.prog 89 := by
  refine FSpec.okN [] (fn := Try.f89) (c := Try.f89.body.getD .skip) TOk_T mixed Γ1 rfl rfl (fun d => rfl) ?_
  intro (g : Geo) hp hf hh
  conv => whnf
  repeat (first | (refine And.intro ?_ ?_; rotate_left; conv => whnf) | (refine .inl (And.intro ?_ ?_); rotate_left; conv => whnf))
  refine ⟨(g.ring, 4, 60), ?_⟩
  conv => whnf
  repeat (first | (refine And.intro ?_ ?_; rotate_left; conv => whnf) | (refine .inl (And.intro ?_ ?_); rotate_left; conv => whnf))
  intro hr
  conv => whnf
  repeat (first | (refine And.intro ?_ ?_; rotate_left; conv => whnf) | (refine .inl (And.intro ?_ ?_); rotate_left; conv => whnf))
  refine ⟨(g.area, 2, 80), ?_⟩
  conv => whnf
  repeat (first | (refine And.intro ?_ ?_; rotate_left; conv => whnf) | (refine .inl (And.intro ?_ ?_); rotate_left; conv => whnf))
  intro hr
  conv => whnf
  repeat (first | (refine And.intro ?_ ?_; rotate_left; conv => whnf) | (refine .inl (And.intro ?_ ?_); rotate_left; conv => whnf))
  refine ⟨(g.hot, 2, 200), ?_⟩
  conv => whnf
  repeat (first | (refine And.intro ?_ ?_; rotate_left; conv => whnf) | (refine .inl (And.intro ?_ ?_); rotate_left; conv => whnf))
  intro hr
  conv => whnf
  repeat (first | (refine And.intro ?_ ?_; rotate_left; conv => whnf) | (refine .inl (And.intro ?_ ?_); rotate_left; conv => whnf))
  refine ⟨(g.volume, 100, 4000), ?_⟩
  conv => whnf
  repeat (first | (refine And.intro ?_ ?_; rotate_left; conv => whnf) | (refine .inl (And.intro ?_ ?_); rotate_left; conv => whnf))
  intro hr
  conv => whnf
  repeat (first | (refine And.intro ?_ ?_; rotate_left; conv => whnf) | (refine .inl (And.intro ?_ ?_); rotate_left; conv => whnf))
  refine ⟨(g.volumes, 1, 8), ?_⟩
  conv => whnf
  repeat (first | (refine And.intro ?_ ?_; rotate_left; conv => whnf) | (refine .inl (And.intro ?_ ?_); rotate_left; conv => whnf))
  intro hr
  conv => whnf
  repeat (first | (refine And.intro ?_ ?_; rotate_left; conv => whnf) | (refine .inl (And.intro ?_ ?_); rotate_left; conv => whnf))
  refine ⟨fun h => ?_, fun h => ?_⟩
  · have h := (geo_t _ _ _ _ _).symm.trans h
    have hg : geoOk g = false := by unfold geoOk; simpa only [Bool.not_eq_true'] using h
    conv => whnf
    repeat (first | (refine And.intro ?_ ?_; rotate_left; conv => whnf) | (refine .inl (And.intro ?_ ?_); rotate_left; conv => whnf))
    all_goals (try rw [hg])
    all_goals try (first | with_reducible rfl | with_reducible exact NC.Eqv.refl _ | exact NC.Eqv.refl _ | exact trivial | with_reducible exact (fun _ _ _ _ => NC.Eqv.refl _) | exact (fun _ _ _ _ => NC.Eqv.refl _) | (refine Ob.mk ?_; first | with_reducible rfl | omega | (dsimp only; omega) | rfl | exact trivial | (refine i64_of ?_ ?_ <;> omega) | (simp only [tB, Nat.zero_add, Int.toNat_natCast, true_and, and_true]; done) | (simp only [tB, Nat.zero_add, Int.toNat_natCast, true_and, and_true]; omega) | (intro _; first | omega | exact trivial | (refine i64_of ?_ ?_ <;> omega)) | exact ⟨rfl, fun _ _ => trivial⟩ | exact (fun _ => ⟨rfl, fun _ _ => trivial⟩) | ((repeat' (apply And.intro)) <;> first | rfl | exact trivial | (simp only [tB, Nat.zero_add, Int.toNat_natCast, true_and, and_true]; omega) | omega)) | omega | ((repeat' (apply And.intro)) <;> first | rfl | exact trivial | (simp only [tB, Nat.zero_add, Int.toNat_natCast, true_and, and_true]; omega) | omega | exact .inl rfl) | ((conv => whnf); (repeat' (apply And.intro)) <;> first | rfl | exact Ob.mk rfl | exact Ob.mk trivial))
  · have h := (geo_t _ _ _ _ _).symm.trans h
    have hg : geoOk g = true := by unfold geoOk; simpa only [Bool.not_eq_false'] using h
    conv => whnf
    repeat (first | (refine And.intro ?_ ?_; rotate_left; conv => whnf) | (refine .inl (And.intro ?_ ?_); rotate_left; conv => whnf))
    all_goals (try rw [hg])
    all_goals try (first | with_reducible rfl | with_reducible exact NC.Eqv.refl _ | exact NC.Eqv.refl _ | exact trivial | with_reducible exact (fun _ _ _ _ => NC.Eqv.refl _) | exact (fun _ _ _ _ => NC.Eqv.refl _) | (refine Ob.mk ?_; first | with_reducible rfl | omega | (dsimp only; omega) | rfl | exact trivial | (refine i64_of ?_ ?_ <;> omega) | (simp only [tB, Nat.zero_add, Int.toNat_natCast, true_and, and_true]; done) | (simp only [tB, Nat.zero_add, Int.toNat_natCast, true_and, and_true]; omega) | (intro _; first | omega | exact trivial | (refine i64_of ?_ ?_ <;> omega)) | exact ⟨rfl, fun _ _ => trivial⟩ | exact (fun _ => ⟨rfl, fun _ _ => trivial⟩) | ((repeat' (apply And.intro)) <;> first | rfl | exact trivial | (simp only [tB, Nat.zero_add, Int.toNat_natCast, true_and, and_true]; omega) | omega)) | omega | ((repeat' (apply And.intro)) <;> first | rfl | exact trivial | (simp only [tB, Nat.zero_add, Int.toNat_natCast, true_and, and_true]; omega) | omega | exact .inl rfl) | ((conv => whnf); (repeat' (apply And.intro)) <;> first | rfl | exact Ob.mk rfl | exact Ob.mk trivial))
  all_goals try (first | with_reducible rfl | with_reducible exact NC.Eqv.refl _ | exact NC.Eqv.refl _ | exact trivial | with_reducible exact (fun _ _ _ _ => NC.Eqv.refl _) | exact (fun _ _ _ _ => NC.Eqv.refl _) | (refine Ob.mk ?_; first | with_reducible rfl | omega | (dsimp only; omega) | rfl | exact trivial | (refine i64_of ?_ ?_ <;> omega) | (simp only [tB, Nat.zero_add, Int.toNat_natCast, true_and, and_true]; done) | (simp only [tB, Nat.zero_add, Int.toNat_natCast, true_and, and_true]; omega) | (intro _; first | omega | exact trivial | (refine i64_of ?_ ?_ <;> omega)) | exact ⟨rfl, fun _ _ => trivial⟩ | exact (fun _ => ⟨rfl, fun _ _ => trivial⟩) | ((repeat' (apply And.intro)) <;> first | rfl | exact trivial | (simp only [tB, Nat.zero_add, Int.toNat_natCast, true_and, and_true]; omega) | omega)) | omega | ((repeat' (apply And.intro)) <;> first | rfl | exact trivial | (simp only [tB, Nat.zero_add, Int.toNat_natCast, true_and, and_true]; omega) | omega | exact .inl rfl) | ((conv => whnf); (repeat' (apply And.intro)) <;> first | rfl | exact Ob.mk rfl | exact Ob.mk trivial))
end Go.Ice.S1
end

section
set_option linter.unusedVariables false
set_option linter.unusedSimpArgs false
set_option maxRecDepth 20000
namespace Go.Ice.S1
open Go.Proofs
def gtab (g : Geo) : Nat → Nat → Int
  | 0, 0 => g.ring | 0, 1 => 4 | 0, _ => 60
  | 1, 0 => g.area | 1, 1 => 2 | 1, _ => 80
  | 2, 0 => g.hot | 2, 1 => 2 | 2, _ => 200
  | 3, 0 => g.volume | 3, 1 => 100 | 3, _ => 4000
  | _, 0 => g.volumes | _, 1 => 1 | _, _ => 8
def S80 : FSpec := S89
def rowOk (g : Geo) (k : Nat) : Bool := In (gtab g k 0) (gtab g k 1) (gtab g k 2)
theorem geo_rows (g : Geo) : geoOk g = (rowOk g 0 && rowOk g 1 && rowOk g 2 && rowOk g 3 && rowOk g 4) := rfl
theorem row_t (a b c : Int) : (bif decide (a < b) then true else decide (c < a)) = !(In a b c) := by
  simp only [In]
  by_cases h : a < b <;> by_cases h' : c < a <;> simp [h, h'] <;> omega
theorem geo_no {g : Geo} {i : Nat} (hi : i < 5) (h : rowOk g i = false) : geoOk g = false := by
  rw [geo_rows]
  match i, hi with
  | 0, _ | 1, _ | 2, _ | 3, _ | 4, _ => simp [h]
theorem geo_yes {g : Geo} (h : ∀ k, k < 5 → rowOk g k = true) : geoOk g = true := by
  rw [geo_rows, h 0 (by omega), h 1 (by omega), h 2 (by omega), h 3 (by omega), h 4 (by omega)]; rfl
theorem rowsEqv (g : Geo) {h : Nat → Nat → NC} (e : ∀ i, i < 5 → ∀ j, j < 3 → h i j = .f (.int .i64 (gtab g i j))) : ∀ i, i < 5 → ∀ j, j < 3 → (h i j).Eqv (.f (.int .i64 (gtab g i j))) :=
  fun i hi j hj => NC.Eqv.of_eq (e i hi j hj)
theorem ok80 : S80.Ok Try.prog 80 := by
  refine FSpec.okN [] (fn := Try.f80) (c := Try.f80.body.getD .skip) TOk_T mixed Γ1 rfl rfl (fun d => rfl) ?_
  intro (g : Geo) hp hf hh
  conv => whnf
  refine ⟨{ i : Nat // i ≤ 5 ∧ ∀ k, k < i → rowOk g k = true }, [20, 21], fun ⟨i, _⟩ => [(22, .int .i64 (i : Int))], fun _ => [(472, .arr 3 24 5 none (fun i j => .f (.int .i64 (gtab g i j))) none)], fun ⟨i, _⟩ => 5 - i, ⟨⟨0, by omega, fun k h => by omega⟩, ?_⟩, ?_⟩
  · conv => whnf
    repeat (first | (refine And.intro ?_ ?_; rotate_left; conv => whnf) | (refine .inl (And.intro ?_ ?_); rotate_left; conv => whnf))
    all_goals try (first | with_reducible rfl | with_reducible exact NC.Eqv.refl _ | exact NC.Eqv.refl _ | exact trivial | with_reducible exact (fun _ _ _ _ => NC.Eqv.refl _) | exact (fun _ _ _ _ => NC.Eqv.refl _) | (refine Ob.mk ?_; first | with_reducible rfl | omega | (dsimp only; omega) | rfl | exact trivial | (refine i64_of ?_ ?_ <;> omega) | (simp only [tB, Nat.zero_add, Int.toNat_natCast, true_and, and_true]; done) | (simp only [tB, Nat.zero_add, Int.toNat_natCast, true_and, and_true]; omega) | (intro _; first | omega | exact trivial | (refine i64_of ?_ ?_ <;> omega)) | exact ⟨rfl, fun _ _ => trivial⟩ | exact (fun _ => ⟨rfl, fun _ _ => trivial⟩) | ((repeat' (apply And.intro)) <;> first | rfl | exact trivial | (simp only [tB, Nat.zero_add, Int.toNat_natCast, true_and, and_true]; omega) | omega)) | omega | ((repeat' (apply And.intro)) <;> first | rfl | exact trivial | (simp only [tB, Nat.zero_add, Int.toNat_natCast, true_and, and_true]; omega) | omega | exact .inl rfl) | ((conv => whnf); (repeat' (apply And.intro)) <;> first | rfl | exact Ob.mk rfl | exact Ob.mk trivial))
    intro i hi j hj
    match i, hi, j, hj with
    | 0, _, 0, _ | 0, _, 1, _ | 0, _, 2, _ | 1, _, 0, _ | 1, _, 1, _ | 1, _, 2, _ | 2, _, 0, _ | 2, _, 1, _ | 2, _, 2, _ | 3, _, 0, _ | 3, _, 1, _ | 3, _, 2, _ | 4, _, 0, _ | 4, _, 1, _ | 4, _, 2, _ => exact ⟨rfl, rfl⟩
  rintro ⟨i, hi, hrow⟩
  conv => whnf
  refine ⟨fun h => ?_, fun h => ?_⟩
  · have h : (i : Int) < 5 := of_decide_eq_true h
    conv => whnf
    repeat (first | (refine And.intro ?_ ?_; rotate_left; conv => whnf) | (refine .inl (And.intro ?_ ?_); rotate_left; conv => whnf))
    refine ⟨fun h2 => ?_, fun h2 => ?_⟩
    · have h2 := (row_t _ _ _).symm.trans h2
      have hr : rowOk g (0 + (i : Int).toNat) = false := by unfold rowOk; simpa only [Bool.not_eq_true'] using h2
      rw [Int.toNat_natCast, Nat.zero_add] at hr
      have e := geo_no (by omega) hr
      conv => whnf
      repeat (first | (refine And.intro ?_ ?_; rotate_left; conv => whnf) | (refine .inl (And.intro ?_ ?_); rotate_left; conv => whnf))
      all_goals (try rw [e])
      all_goals try (first | with_reducible rfl | with_reducible exact NC.Eqv.refl _ | exact NC.Eqv.refl _ | exact trivial | with_reducible exact (fun _ _ _ _ => NC.Eqv.refl _) | exact (fun _ _ _ _ => NC.Eqv.refl _) | (refine Ob.mk ?_; first | with_reducible rfl | omega | (dsimp only; omega) | rfl | exact trivial | (refine i64_of ?_ ?_ <;> omega) | (simp only [tB, Nat.zero_add, Int.toNat_natCast, true_and, and_true]; done) | (simp only [tB, Nat.zero_add, Int.toNat_natCast, true_and, and_true]; omega) | (intro _; first | omega | exact trivial | (refine i64_of ?_ ?_ <;> omega)) | exact ⟨rfl, fun _ _ => trivial⟩ | exact (fun _ => ⟨rfl, fun _ _ => trivial⟩) | ((repeat' (apply And.intro)) <;> first | rfl | exact trivial | (simp only [tB, Nat.zero_add, Int.toNat_natCast, true_and, and_true]; omega) | omega)) | omega | ((repeat' (apply And.intro)) <;> first | rfl | exact trivial | (simp only [tB, Nat.zero_add, Int.toNat_natCast, true_and, and_true]; omega) | omega | exact .inl rfl) | ((conv => whnf); (repeat' (apply And.intro)) <;> first | rfl | exact Ob.mk rfl | exact Ob.mk trivial))
    · have h2 := (row_t _ _ _).symm.trans h2
      have hr : rowOk g (0 + (i : Int).toNat) = true := by unfold rowOk; simpa only [Bool.not_eq_false'] using h2
      rw [Int.toNat_natCast, Nat.zero_add] at hr
      conv => whnf
      repeat (first | (refine And.intro ?_ ?_; rotate_left; conv => whnf) | (refine .inl (And.intro ?_ ?_); rotate_left; conv => whnf))
      refine ⟨⟨i + 1, by omega, fun k hk => ?_⟩, ?_⟩
      · by_cases e : k = i
        · rw [e]; exact hr
        · exact hrow k (by omega)
      conv => whnf
      repeat (first | (refine And.intro ?_ ?_; rotate_left; conv => whnf) | (refine .inl (And.intro ?_ ?_); rotate_left; conv => whnf))
      all_goals try (first | with_reducible rfl | with_reducible exact NC.Eqv.refl _ | exact NC.Eqv.refl _ | exact trivial | with_reducible exact (fun _ _ _ _ => NC.Eqv.refl _) | exact (fun _ _ _ _ => NC.Eqv.refl _) | (refine Ob.mk ?_; first | with_reducible rfl | omega | (dsimp only; omega) | rfl | exact trivial | (refine i64_of ?_ ?_ <;> omega) | (simp only [tB, Nat.zero_add, Int.toNat_natCast, true_and, and_true]; done) | (simp only [tB, Nat.zero_add, Int.toNat_natCast, true_and, and_true]; omega) | (intro _; first | omega | exact trivial | (refine i64_of ?_ ?_ <;> omega)) | exact ⟨rfl, fun _ _ => trivial⟩ | exact (fun _ => ⟨rfl, fun _ _ => trivial⟩) | ((repeat' (apply And.intro)) <;> first | rfl | exact trivial | (simp only [tB, Nat.zero_add, Int.toNat_natCast, true_and, and_true]; omega) | omega)) | omega | ((repeat' (apply And.intro)) <;> first | rfl | exact trivial | (simp only [tB, Nat.zero_add, Int.toNat_natCast, true_and, and_true]; omega) | omega | exact .inl rfl) | ((conv => whnf); (repeat' (apply And.intro)) <;> first | rfl | exact Ob.mk rfl | exact Ob.mk trivial))
    all_goals try (first | with_reducible rfl | with_reducible exact NC.Eqv.refl _ | exact NC.Eqv.refl _ | exact trivial | with_reducible exact (fun _ _ _ _ => NC.Eqv.refl _) | exact (fun _ _ _ _ => NC.Eqv.refl _) | (refine Ob.mk ?_; first | with_reducible rfl | omega | (dsimp only; omega) | rfl | exact trivial | (refine i64_of ?_ ?_ <;> omega) | (simp only [tB, Nat.zero_add, Int.toNat_natCast, true_and, and_true]; done) | (simp only [tB, Nat.zero_add, Int.toNat_natCast, true_and, and_true]; omega) | (intro _; first | omega | exact trivial | (refine i64_of ?_ ?_ <;> omega)) | exact ⟨rfl, fun _ _ => trivial⟩ | exact (fun _ => ⟨rfl, fun _ _ => trivial⟩) | ((repeat' (apply And.intro)) <;> first | rfl | exact trivial | (simp only [tB, Nat.zero_add, Int.toNat_natCast, true_and, and_true]; omega) | omega)) | omega | ((repeat' (apply And.intro)) <;> first | rfl | exact trivial | (simp only [tB, Nat.zero_add, Int.toNat_natCast, true_and, and_true]; omega) | omega | exact .inl rfl) | ((conv => whnf); (repeat' (apply And.intro)) <;> first | rfl | exact Ob.mk rfl | exact Ob.mk trivial))
  · have h : ¬ (i : Int) < 5 := of_decide_eq_false h
    have e := geo_yes (fun k hk => hrow k (by omega))
    conv => whnf
    repeat (first | (refine And.intro ?_ ?_; rotate_left; conv => whnf) | (refine .inl (And.intro ?_ ?_); rotate_left; conv => whnf))
    all_goals (try rw [e])
    all_goals try (first | with_reducible rfl | with_reducible exact NC.Eqv.refl _ | exact NC.Eqv.refl _ | exact trivial | with_reducible exact (fun _ _ _ _ => NC.Eqv.refl _) | exact (fun _ _ _ _ => NC.Eqv.refl _) | (refine Ob.mk ?_; first | with_reducible rfl | omega | (dsimp only; omega) | rfl | exact trivial | (refine i64_of ?_ ?_ <;> omega) | (simp only [tB, Nat.zero_add, Int.toNat_natCast, true_and, and_true]; done) | (simp only [tB, Nat.zero_add, Int.toNat_natCast, true_and, and_true]; omega) | (intro _; first | omega | exact trivial | (refine i64_of ?_ ?_ <;> omega)) | exact ⟨rfl, fun _ _ => trivial⟩ | exact (fun _ => ⟨rfl, fun _ _ => trivial⟩) | ((repeat' (apply And.intro)) <;> first | rfl | exact trivial | (simp only [tB, Nat.zero_add, Int.toNat_natCast, true_and, and_true]; omega) | omega)) | omega | ((repeat' (apply And.intro)) <;> first | rfl | exact trivial | (simp only [tB, Nat.zero_add, Int.toNat_natCast, true_and, and_true]; omega) | omega | exact .inl rfl) | ((conv => whnf); (repeat' (apply And.intro)) <;> first | rfl | exact Ob.mk rfl | exact Ob.mk trivial))
end Go.Ice.S1
end

section
set_option linter.unusedVariables false
set_option linter.unusedSimpArgs false
set_option maxRecDepth 20000
namespace Go.Ice.S1
open Go.Proofs
/-! ### Bytes and lists of bytes -/
def bF (bs : List UInt8) : Nat → Nat → FC := fun i _ => .int .u8 (bs.getD i 0).toNat
def bN (bs : List UInt8) : Nat → Nat → NC := fun i j => .f (bF bs i j)
def bSl (bs : List UInt8) : FC := .sl 1 1 bs.length (bF bs)
def bArr (bs : List UInt8) : Blk := .arr 1 1 bs.length none (bN bs) none
def lF (l : List (List UInt8)) : Nat → Nat → FC := fun i _ => bSl (l.getD i [])
def lSl (l : List (List UInt8)) : FC := .sl 1 24 l.length (lF l)
theorem bArr_nofr (bs : List UInt8) : (bArr bs).nofr := fun i hi j hj => trivial
def preL (l : List (List UInt8)) (i j : Nat) : List UInt8 := (l.take i).flatten ++ (l.getD i []).take j
theorem preL_zero (l : List (List UInt8)) : preL l 0 0 = [] := by simp [preL]
theorem preL_end (l : List (List UInt8)) : preL l l.length 0 = l.flatten := by simp [preL]
theorem preL_step {l : List (List UInt8)} {i j : Nat} (hj : j < (l.getD i []).length) : preL l i (j + 1) = preL l i j ++ [(l.getD i []).getD j 0] := by
  unfold preL
  rw [List.append_assoc, List.take_add_one]
  congr 2
  generalize l.getD i [] = x at hj ⊢
  rw [List.getElem?_eq_getElem hj, List.getD_eq_getElem?_getD, List.getElem?_eq_getElem hj]
  rfl
theorem preL_next {l : List (List UInt8)} {i : Nat} (hi : i < l.length) : preL l i (l.getD i []).length = preL l (i + 1) 0 := by
  unfold preL
  rw [List.take_length, List.take_zero, List.append_nil, List.take_add_one, List.flatten_append, List.getD_eq_getElem?_getD, List.getElem?_eq_getElem hi]
  simp
theorem preL_le {l : List (List UInt8)} {i j : Nat} (hi : i < l.length) (hj : j ≤ (l.getD i []).length) : (preL l i j).length ≤ l.flatten.length := by
  have h1 : l.flatten = (l.take i).flatten ++ (l.drop i).flatten := by rw [← List.flatten_append, List.take_append_drop]
  have h2 : l.drop i = l[i] :: l.drop (i + 1) := List.drop_eq_getElem_cons hi
  have h3 : l.getD i [] = l[i] := by rw [List.getD_eq_getElem?_getD, List.getElem?_eq_getElem hi]; rfl
  rw [h1, h2]
  unfold preL
  rw [h3] at hj ⊢
  simp only [List.length_append, List.length_take, List.flatten_cons]
  omega
theorem app_byte (A : List UInt8) (b : UInt8) : ∀ k, k < A.length + 1 → ∀ j, j < 1 → (appA A.length (bN A) (tabG (tabEl 1 [.f (.int .u8 b.toNat)] 1)) k j).Eqv (bN (A ++ [b]) k j) := by
  intro k hk j hj
  have : j = 0 := by omega
  subst this
  by_cases h : k < A.length
  · rw [appA_lt h]
    have : (A ++ [b]).getD k 0 = A.getD k 0 := by rw [List.getD_eq_getElem?_getD, List.getElem?_append_left h, ← List.getD_eq_getElem?_getD]
    simp only [bN, bF, this]
    exact NC.Eqv.refl _
  · have e : k = A.length := by omega
    subst e
    rw [appA_ge (Nat.le_refl _), Nat.sub_self]
    have : (A ++ [b]).getD A.length 0 = b := by simp [List.getD_eq_getElem?_getD]
    simp only [bN, bF, this]
    exact NC.Eqv.refl _
def S23 : FSpec where
  D := List (List UInt8)
  pre l := l.flatten.length ≤ 140737488355328
  args l := [.c (.nc (.f (lSl l)))]
  hin _ := []
  res l := .e (.c (.own 100 1 0 l.flatten.length))
  hout l := [(100, bArr l.flatten)]
  lend := true
  lends := fun _ l _ => ⟨trivial, fun i B h => by
    simp only [lkH] at h
    split at h
    · injection h with h; subst h; exact bArr_nofr _
    · cases h⟩
theorem bN_of {A B : List UInt8} (h : A = B) : ∀ i, i < A.length → ∀ j, j < 1 → (bN A i j).Eqv (bN B i j) := fun i _ j _ => NC.Eqv.of_eq (congrArg (fun x => bN x i j) h)
theorem ok23 : S23.Ok Try.prog 23 := by
  refine FSpec.okN [] (fn := Try.f23) (c := Try.f23.body.getD .skip) TOk_T mixed Γ0 rfl rfl (fun d => rfl) ?_
  intro (l : List (List UInt8)) hp hf hh
  have hp : l.flatten.length ≤ 140737488355328 := hp
  have hf1 : l.length ≤ 140737488355328 := hf.1.1
  conv => whnf
  refine ⟨{ i : Nat // i ≤ l.length }, [0], fun ⟨i, _⟩ => [(3, .c (.own 110 1 0 (preL l i 0).length)), (4, .int .i64 (i : Int))], fun ⟨i, _⟩ => [(110, bArr (preL l i 0))], fun ⟨i, _⟩ => l.length - i, ⟨⟨0, by omega⟩, ?_⟩, ?_⟩
  · conv => whnf
    repeat (first | (refine And.intro ?_ ?_; rotate_left; conv => whnf) | (refine .inl (And.intro ?_ ?_); rotate_left; conv => whnf))
    all_goals (try rw [preL_zero])
    all_goals try (first | with_reducible rfl | with_reducible exact NC.Eqv.refl _ | exact NC.Eqv.refl _ | exact trivial | with_reducible exact (fun _ _ _ _ => NC.Eqv.refl _) | exact (fun _ _ _ _ => NC.Eqv.refl _) | (refine Ob.mk ?_; first | with_reducible rfl | omega | (dsimp only; omega) | rfl | exact trivial | (refine i64_of ?_ ?_ <;> omega) | (simp only [tB, Nat.zero_add, Int.toNat_natCast, true_and, and_true]; done) | (simp only [tB, Nat.zero_add, Int.toNat_natCast, true_and, and_true]; omega) | (intro _; first | omega | exact trivial | (refine i64_of ?_ ?_ <;> omega)) | exact ⟨rfl, fun _ _ => trivial⟩ | exact (fun _ => ⟨rfl, fun _ _ => trivial⟩) | ((repeat' (apply And.intro)) <;> first | rfl | exact trivial | (simp only [tB, Nat.zero_add, Int.toNat_natCast, true_and, and_true]; omega) | omega)) | omega | ((repeat' (apply And.intro)) <;> first | rfl | exact trivial | (simp only [tB, Nat.zero_add, Int.toNat_natCast, true_and, and_true]; omega) | omega | exact .inl rfl) | ((conv => whnf); (repeat' (apply And.intro)) <;> first | rfl | exact Ob.mk rfl | exact Ob.mk trivial))
  rintro ⟨i, hi⟩
  conv => whnf
  refine ⟨fun h => ?_, fun h => ?_⟩
  · have h : (i : Int) < l.length := of_decide_eq_true h
    have hle := preL_le (l := l) (i := i) (j := (l.getD i []).length) (by omega) (by omega)
    have h3 : (preL l i (l.getD i []).length).length = (l.take i).flatten.length + (l.getD i []).length := by simp [preL]
    conv => whnf
    repeat (first | (refine And.intro ?_ ?_; rotate_left; conv => whnf) | (refine .inl (And.intro ?_ ?_); rotate_left; conv => whnf))
    refine ⟨{ j : Nat // j ≤ (l.getD i []).length }, [0, 4], fun ⟨j, _⟩ => [(3, .c (.own 110 1 0 (preL l i j).length)), (5, .int .i64 (j : Int))], fun ⟨j, _⟩ => [(110, bArr (preL l i j))], fun ⟨j, _⟩ => (l.getD i []).length - j, ⟨⟨0, by omega⟩, ?_⟩, ?_⟩
    · conv => whnf
      repeat (first | (refine And.intro ?_ ?_; rotate_left; conv => whnf) | (refine .inl (And.intro ?_ ?_); rotate_left; conv => whnf))
      all_goals try (first | with_reducible rfl | with_reducible exact NC.Eqv.refl _ | exact NC.Eqv.refl _ | exact trivial | with_reducible exact (fun _ _ _ _ => NC.Eqv.refl _) | exact (fun _ _ _ _ => NC.Eqv.refl _) | (refine Ob.mk ?_; first | with_reducible rfl | omega | (dsimp only; omega) | rfl | exact trivial | (refine i64_of ?_ ?_ <;> omega) | (simp only [tB, Nat.zero_add, Int.toNat_natCast, true_and, and_true]; done) | (simp only [tB, Nat.zero_add, Int.toNat_natCast, true_and, and_true]; omega) | (intro _; first | omega | exact trivial | (refine i64_of ?_ ?_ <;> omega)) | exact ⟨rfl, fun _ _ => trivial⟩ | exact (fun _ => ⟨rfl, fun _ _ => trivial⟩) | ((repeat' (apply And.intro)) <;> first | rfl | exact trivial | (simp only [tB, Nat.zero_add, Int.toNat_natCast, true_and, and_true]; omega) | omega)) | omega | ((repeat' (apply And.intro)) <;> first | rfl | exact trivial | (simp only [tB, Nat.zero_add, Int.toNat_natCast, true_and, and_true]; omega) | omega | exact .inl rfl) | ((conv => whnf); (repeat' (apply And.intro)) <;> first | rfl | exact Ob.mk rfl | exact Ob.mk trivial))
    rintro ⟨j, hj⟩
    conv => whnf
    repeat (first | (refine And.intro ?_ ?_; rotate_left; conv => whnf) | (refine .inl (And.intro ?_ ?_); rotate_left; conv => whnf))
    refine ⟨fun h2 => ?_, fun h2 => ?_⟩
    · have h2 : (j : Int) < (l.getD i []).length := of_decide_eq_true h2
      have hs := preL_step (l := l) (i := i) (j := j) (by omega)
      have hlen : (preL l i j).length + 1 = (preL l i (j + 1)).length := by rw [hs]; simp
      have hle := preL_le (l := l) (i := i) (j := j + 1) (by omega) (by omega)
      conv => whnf
      repeat (first | (refine And.intro ?_ ?_; rotate_left; conv => whnf) | (refine .inl (And.intro ?_ ?_); rotate_left; conv => whnf))
      refine ⟨⟨j + 1, by omega⟩, ?_⟩
      conv => whnf
      repeat (first | (refine And.intro ?_ ?_; rotate_left; conv => whnf) | (refine .inl (And.intro ?_ ?_); rotate_left; conv => whnf))
      all_goals try (first | with_reducible rfl | with_reducible exact NC.Eqv.refl _ | exact NC.Eqv.refl _ | exact trivial | with_reducible exact (fun _ _ _ _ => NC.Eqv.refl _) | exact (fun _ _ _ _ => NC.Eqv.refl _) | (refine Ob.mk ?_; first | with_reducible rfl | omega | (dsimp only; omega) | rfl | exact trivial | (refine i64_of ?_ ?_ <;> omega) | (simp only [tB, Nat.zero_add, Int.toNat_natCast, true_and, and_true]; done) | (simp only [tB, Nat.zero_add, Int.toNat_natCast, true_and, and_true]; omega) | (intro _; first | omega | exact trivial | (refine i64_of ?_ ?_ <;> omega)) | exact ⟨rfl, fun _ _ => trivial⟩ | exact (fun _ => ⟨rfl, fun _ _ => trivial⟩) | ((repeat' (apply And.intro)) <;> first | rfl | exact trivial | (simp only [tB, Nat.zero_add, Int.toNat_natCast, true_and, and_true]; omega) | omega)) | omega | ((repeat' (apply And.intro)) <;> first | rfl | exact trivial | (simp only [tB, Nat.zero_add, Int.toNat_natCast, true_and, and_true]; omega) | omega | exact .inl rfl) | ((conv => whnf); (repeat' (apply And.intro)) <;> first | rfl | exact Ob.mk rfl | exact Ob.mk trivial))
      · intro k hk c hc
        have hx := app_byte (preL l i j) ((l.getD i []).getD j 0) k hk c hc
        rw [← hs] at hx
        show (appA (preL l i j).length (bN (preL l i j)) (fun a b => tabG (tabEl 1 [NC.f (bF (l.getD (i : Int).toNat []) (j : Int).toNat 0)] 1) (0 + a) b) k c).Eqv (bN (preL l i (j + 1)) k c)
        simp only [Int.toNat_natCast, Nat.zero_add]
        exact hx
    · have h2 : ¬ (j : Int) < (l.getD i []).length := of_decide_eq_false h2
      have e : j = (l.getD i []).length := by omega
      have hn : preL l i j = preL l (i + 1) 0 := by rw [e]; exact preL_next (by omega)
      have hl := congrArg List.length hn
      conv => whnf
      repeat (first | (refine And.intro ?_ ?_; rotate_left; conv => whnf) | (refine .inl (And.intro ?_ ?_); rotate_left; conv => whnf))
      refine ⟨⟨i + 1, by omega⟩, ?_⟩
      conv => whnf
      repeat (first | (refine And.intro ?_ ?_; rotate_left; conv => whnf) | (refine .inl (And.intro ?_ ?_); rotate_left; conv => whnf))
      all_goals try (first | with_reducible rfl | with_reducible exact NC.Eqv.refl _ | exact NC.Eqv.refl _ | exact trivial | with_reducible exact (fun _ _ _ _ => NC.Eqv.refl _) | exact (fun _ _ _ _ => NC.Eqv.refl _) | (refine Ob.mk ?_; first | with_reducible rfl | omega | (dsimp only; omega) | rfl | exact trivial | (refine i64_of ?_ ?_ <;> omega) | (simp only [tB, Nat.zero_add, Int.toNat_natCast, true_and, and_true]; done) | (simp only [tB, Nat.zero_add, Int.toNat_natCast, true_and, and_true]; omega) | (intro _; first | omega | exact trivial | (refine i64_of ?_ ?_ <;> omega)) | exact ⟨rfl, fun _ _ => trivial⟩ | exact (fun _ => ⟨rfl, fun _ _ => trivial⟩) | ((repeat' (apply And.intro)) <;> first | rfl | exact trivial | (simp only [tB, Nat.zero_add, Int.toNat_natCast, true_and, and_true]; omega) | omega)) | omega | ((repeat' (apply And.intro)) <;> first | rfl | exact trivial | (simp only [tB, Nat.zero_add, Int.toNat_natCast, true_and, and_true]; omega) | omega | exact .inl rfl) | ((conv => whnf); (repeat' (apply And.intro)) <;> first | rfl | exact Ob.mk rfl | exact Ob.mk trivial))
      exact bN_of hn
    all_goals try (first | with_reducible rfl | with_reducible exact NC.Eqv.refl _ | exact NC.Eqv.refl _ | exact trivial | with_reducible exact (fun _ _ _ _ => NC.Eqv.refl _) | exact (fun _ _ _ _ => NC.Eqv.refl _) | (refine Ob.mk ?_; first | with_reducible rfl | omega | (dsimp only; omega) | rfl | exact trivial | (refine i64_of ?_ ?_ <;> omega) | (simp only [tB, Nat.zero_add, Int.toNat_natCast, true_and, and_true]; done) | (simp only [tB, Nat.zero_add, Int.toNat_natCast, true_and, and_true]; omega) | (intro _; first | omega | exact trivial | (refine i64_of ?_ ?_ <;> omega)) | exact ⟨rfl, fun _ _ => trivial⟩ | exact (fun _ => ⟨rfl, fun _ _ => trivial⟩) | ((repeat' (apply And.intro)) <;> first | rfl | exact trivial | (simp only [tB, Nat.zero_add, Int.toNat_natCast, true_and, and_true]; omega) | omega)) | omega | ((repeat' (apply And.intro)) <;> first | rfl | exact trivial | (simp only [tB, Nat.zero_add, Int.toNat_natCast, true_and, and_true]; omega) | omega | exact .inl rfl) | ((conv => whnf); (repeat' (apply And.intro)) <;> first | rfl | exact Ob.mk rfl | exact Ob.mk trivial))
  · have h : ¬ (i : Int) < l.length := of_decide_eq_false h
    have e : i = l.length := by omega
    subst e
    have hl := congrArg List.length (preL_end l)
    conv => whnf
    repeat (first | (refine And.intro ?_ ?_; rotate_left; conv => whnf) | (refine .inl (And.intro ?_ ?_); rotate_left; conv => whnf))
    all_goals try (first | with_reducible rfl | with_reducible exact NC.Eqv.refl _ | exact NC.Eqv.refl _ | exact trivial | with_reducible exact (fun _ _ _ _ => NC.Eqv.refl _) | exact (fun _ _ _ _ => NC.Eqv.refl _) | (refine Ob.mk ?_; first | with_reducible rfl | omega | (dsimp only; omega) | rfl | exact trivial | (refine i64_of ?_ ?_ <;> omega) | (simp only [tB, Nat.zero_add, Int.toNat_natCast, true_and, and_true]; done) | (simp only [tB, Nat.zero_add, Int.toNat_natCast, true_and, and_true]; omega) | (intro _; first | omega | exact trivial | (refine i64_of ?_ ?_ <;> omega)) | exact ⟨rfl, fun _ _ => trivial⟩ | exact (fun _ => ⟨rfl, fun _ _ => trivial⟩) | ((repeat' (apply And.intro)) <;> first | rfl | exact trivial | (simp only [tB, Nat.zero_add, Int.toNat_natCast, true_and, and_true]; omega) | omega)) | omega | ((repeat' (apply And.intro)) <;> first | rfl | exact trivial | (simp only [tB, Nat.zero_add, Int.toNat_natCast, true_and, and_true]; omega) | omega | exact .inl rfl) | ((conv => whnf); (repeat' (apply And.intro)) <;> first | rfl | exact Ob.mk rfl | exact Ob.mk trivial))
    exact bN_of (preL_end l)
end Go.Ice.S1
end

section
set_option linter.unusedVariables false
set_option linter.unusedSimpArgs false
set_option maxRecDepth 20000
namespace Go.Ice.S1
open Go.Proofs
theorem appA_zero {g h : Nat → Nat → NC} {n : Nat} {x : Nat → Nat → NC} (hx : ∀ i j, h i j = x i j) : ∀ i, i < n → ∀ j, j < 1 → (appA 0 g h i j).Eqv (x i j) := by
  intro i _ j _
  rw [appA_ge (Nat.zero_le i), Nat.sub_zero]
  exact NC.Eqv.of_eq (hx i j)
def SByt : FSpec where
  D := List UInt8
  pre _ := True
  args l := [.c (.nc (.f (bSl l)))]
  hin _ := []
  res l := .e (.c (.own 100 1 0 l.length))
  hout l := [(100, bArr l)]
  lend := true
  lends := fun _ l _ => ⟨trivial, fun i B h => by
    simp only [lkH] at h
    split at h
    · injection h with h; subst h; exact bArr_nofr _
    · cases h⟩
theorem ok10 : SByt.Ok Try.prog 10 := by
  refine FSpec.okN [] (fn := Try.f10) (c := Try.f10.body.getD .skip) TOk_T mixed Γ0 rfl rfl (fun d => rfl) ?_
  intro (l : List UInt8) hp hf hh
  have hf1 : l.length ≤ 140737488355328 := hf.1.1
  conv => whnf
  repeat (first | (refine And.intro ?_ ?_; rotate_left; conv => whnf) | (refine .inl (And.intro ?_ ?_); rotate_left; conv => whnf))
  all_goals try (first | with_reducible rfl | with_reducible exact NC.Eqv.refl _ | exact NC.Eqv.refl _ | exact trivial | with_reducible exact (fun _ _ _ _ => NC.Eqv.refl _) | exact (fun _ _ _ _ => NC.Eqv.refl _) | (refine Ob.mk ?_; first | with_reducible rfl | omega | (dsimp only; omega) | rfl | exact trivial | (refine i64_of ?_ ?_ <;> omega) | (simp only [tB, Nat.zero_add, Int.toNat_natCast, true_and, and_true]; done) | (simp only [tB, Nat.zero_add, Int.toNat_natCast, true_and, and_true]; omega) | (intro _; first | omega | exact trivial | (refine i64_of ?_ ?_ <;> omega)) | exact ⟨rfl, fun _ _ => trivial⟩ | exact (fun _ => ⟨rfl, fun _ _ => trivial⟩) | ((repeat' (apply And.intro)) <;> first | rfl | exact trivial | (simp only [tB, Nat.zero_add, Int.toNat_natCast, true_and, and_true]; omega) | omega)) | omega | ((repeat' (apply And.intro)) <;> first | rfl | exact trivial | (simp only [tB, Nat.zero_add, Int.toNat_natCast, true_and, and_true]; omega) | omega | exact .inl rfl) | ((conv => whnf); (repeat' (apply And.intro)) <;> first | rfl | exact Ob.mk rfl | exact Ob.mk trivial))
  all_goals exact appA_zero (fun i j => rfl)
theorem ok47 : SByt.Ok Try.prog 47 := by
  refine FSpec.okN [] (fn := Try.f47) (c := Try.f47.body.getD .skip) TOk_T mixed Γ0 rfl rfl (fun d => rfl) ?_
  intro (l : List UInt8) hp hf hh
  have hf1 : l.length ≤ 140737488355328 := hf.1.1
  conv => whnf
  repeat (first | (refine And.intro ?_ ?_; rotate_left; conv => whnf) | (refine .inl (And.intro ?_ ?_); rotate_left; conv => whnf))
  intro b hb
  conv => whnf
  repeat (first | (refine And.intro ?_ ?_; rotate_left; conv => whnf) | (refine .inl (And.intro ?_ ?_); rotate_left; conv => whnf))
  refine ⟨fun h => ?_, fun h => ?_⟩
  · have h0 : l.length = 0 := hb (by simpa using h)
    conv => whnf
    repeat (first | (refine And.intro ?_ ?_; rotate_left; conv => whnf) | (refine .inl (And.intro ?_ ?_); rotate_left; conv => whnf))
    all_goals (try rw [h0])
    all_goals try (first | with_reducible rfl | with_reducible exact NC.Eqv.refl _ | exact NC.Eqv.refl _ | exact trivial | with_reducible exact (fun _ _ _ _ => NC.Eqv.refl _) | exact (fun _ _ _ _ => NC.Eqv.refl _) | (refine Ob.mk ?_; first | with_reducible rfl | omega | (dsimp only; omega) | rfl | exact trivial | (refine i64_of ?_ ?_ <;> omega) | (simp only [tB, Nat.zero_add, Int.toNat_natCast, true_and, and_true]; done) | (simp only [tB, Nat.zero_add, Int.toNat_natCast, true_and, and_true]; omega) | (intro _; first | omega | exact trivial | (refine i64_of ?_ ?_ <;> omega)) | exact ⟨rfl, fun _ _ => trivial⟩ | exact (fun _ => ⟨rfl, fun _ _ => trivial⟩) | ((repeat' (apply And.intro)) <;> first | rfl | exact trivial | (simp only [tB, Nat.zero_add, Int.toNat_natCast, true_and, and_true]; omega) | omega)) | omega | ((repeat' (apply And.intro)) <;> first | rfl | exact trivial | (simp only [tB, Nat.zero_add, Int.toNat_natCast, true_and, and_true]; omega) | omega | exact .inl rfl) | ((conv => whnf); (repeat' (apply And.intro)) <;> first | rfl | exact Ob.mk rfl | exact Ob.mk trivial))
  · conv => whnf
    repeat (first | (refine And.intro ?_ ?_; rotate_left; conv => whnf) | (refine .inl (And.intro ?_ ?_); rotate_left; conv => whnf))
    all_goals try (first | with_reducible rfl | with_reducible exact NC.Eqv.refl _ | exact NC.Eqv.refl _ | exact trivial | with_reducible exact (fun _ _ _ _ => NC.Eqv.refl _) | exact (fun _ _ _ _ => NC.Eqv.refl _) | (refine Ob.mk ?_; first | with_reducible rfl | omega | (dsimp only; omega) | rfl | exact trivial | (refine i64_of ?_ ?_ <;> omega) | (simp only [tB, Nat.zero_add, Int.toNat_natCast, true_and, and_true]; done) | (simp only [tB, Nat.zero_add, Int.toNat_natCast, true_and, and_true]; omega) | (intro _; first | omega | exact trivial | (refine i64_of ?_ ?_ <;> omega)) | exact ⟨rfl, fun _ _ => trivial⟩ | exact (fun _ => ⟨rfl, fun _ _ => trivial⟩) | ((repeat' (apply And.intro)) <;> first | rfl | exact trivial | (simp only [tB, Nat.zero_add, Int.toNat_natCast, true_and, and_true]; omega) | omega)) | omega | ((repeat' (apply And.intro)) <;> first | rfl | exact trivial | (simp only [tB, Nat.zero_add, Int.toNat_natCast, true_and, and_true]; omega) | omega | exact .inl rfl) | ((conv => whnf); (repeat' (apply And.intro)) <;> first | rfl | exact Ob.mk rfl | exact Ob.mk trivial))
    all_goals exact appA_zero (fun i j => rfl)
def nSec (g : Geo) : Int := 2 + g.ring + 2 * g.area + g.hot
theorem geo_rng {g : Geo} (h : geoOk g = true) : (4 ≤ g.ring ∧ g.ring ≤ 60) ∧ (2 ≤ g.area ∧ g.area ≤ 80) ∧ (2 ≤ g.hot ∧ g.hot ≤ 200) ∧ (100 ≤ g.volume ∧ g.volume ≤ 4000) ∧ 1 ≤ g.volumes ∧ g.volumes ≤ 8 := by
  simp [geoOk, In] at h
  omega
theorem i64_of {n : Int} (h1 : -9223372036854775808 ≤ n) (h2 : n ≤ 9223372036854775807) : IntKind.i64.min ≤ n ∧ n ≤ IntKind.i64.max := by
  simp only [IntKind.min, IntKind.max, IntKind.signed, IntKind.bits]
  simp
  omega
def SSec : FSpec where
  D := Geo
  pre g := geoOk g = true
  args g := [.agg g.cells]
  hin _ := []
  res g := .e (.int .i64 (nSec g))
  hout _ := []
  lend := true
  lends := fun _ d _ => ⟨trivial, fun i B h => by cases h⟩
theorem ok81 : SSec.Ok Try.prog 81 := by
  refine FSpec.okN [] (fn := Try.f81) (c := Try.f81.body.getD .skip) TOk_T mixed Γ0 rfl rfl (fun d => rfl) ?_
  intro (g : Geo) hp hf hh
  have hg := geo_rng hp
  conv => whnf
  repeat (first | (refine And.intro ?_ ?_; rotate_left; conv => whnf) | (refine .inl (And.intro ?_ ?_); rotate_left; conv => whnf))
  all_goals try (first | with_reducible rfl | with_reducible exact NC.Eqv.refl _ | exact NC.Eqv.refl _ | exact trivial | with_reducible exact (fun _ _ _ _ => NC.Eqv.refl _) | exact (fun _ _ _ _ => NC.Eqv.refl _) | (refine Ob.mk ?_; first | with_reducible rfl | omega | (dsimp only; omega) | rfl | exact trivial | (refine i64_of ?_ ?_ <;> omega) | (simp only [tB, Nat.zero_add, Int.toNat_natCast, true_and, and_true]; done) | (simp only [tB, Nat.zero_add, Int.toNat_natCast, true_and, and_true]; omega) | (intro _; first | omega | exact trivial | (refine i64_of ?_ ?_ <;> omega)) | exact ⟨rfl, fun _ _ => trivial⟩ | exact (fun _ => ⟨rfl, fun _ _ => trivial⟩) | ((repeat' (apply And.intro)) <;> first | rfl | exact trivial | (simp only [tB, Nat.zero_add, Int.toNat_natCast, true_and, and_true]; omega) | omega)) | omega | ((repeat' (apply And.intro)) <;> first | rfl | exact trivial | (simp only [tB, Nat.zero_add, Int.toNat_natCast, true_and, and_true]; omega) | omega | exact .inl rfl) | ((conv => whnf); (repeat' (apply And.intro)) <;> first | rfl | exact Ob.mk rfl | exact Ob.mk trivial))
theorem ok90 : SSec.Ok Try.prog 90 := by
  refine FSpec.okN [] (fn := Try.f90) (c := Try.f90.body.getD .skip) TOk_T mixed Γ0 rfl rfl (fun d => rfl) ?_
  intro (g : Geo) hp hf hh
  have hg := geo_rng hp
  conv => whnf
  repeat (first | (refine And.intro ?_ ?_; rotate_left; conv => whnf) | (refine .inl (And.intro ?_ ?_); rotate_left; conv => whnf))
  all_goals try (first | with_reducible rfl | with_reducible exact NC.Eqv.refl _ | exact NC.Eqv.refl _ | exact trivial | with_reducible exact (fun _ _ _ _ => NC.Eqv.refl _) | exact (fun _ _ _ _ => NC.Eqv.refl _) | (refine Ob.mk ?_; first | with_reducible rfl | omega | (dsimp only; omega) | rfl | exact trivial | (refine i64_of ?_ ?_ <;> omega) | (simp only [tB, Nat.zero_add, Int.toNat_natCast, true_and, and_true]; done) | (simp only [tB, Nat.zero_add, Int.toNat_natCast, true_and, and_true]; omega) | (intro _; first | omega | exact trivial | (refine i64_of ?_ ?_ <;> omega)) | exact ⟨rfl, fun _ _ => trivial⟩ | exact (fun _ => ⟨rfl, fun _ _ => trivial⟩) | ((repeat' (apply And.intro)) <;> first | rfl | exact trivial | (simp only [tB, Nat.zero_add, Int.toNat_natCast, true_and, and_true]; omega) | omega)) | omega | ((repeat' (apply And.intro)) <;> first | rfl | exact trivial | (simp only [tB, Nat.zero_add, Int.toNat_natCast, true_and, and_true]; omega) | omega | exact .inl rfl) | ((conv => whnf); (repeat' (apply And.intro)) <;> first | rfl | exact Ob.mk rfl | exact Ob.mk trivial))
  all_goals exact intEqv (by unfold nSec; omega)
end Go.Ice.S1
end

section
set_option linter.unusedVariables false
set_option linter.unusedSimpArgs false
set_option maxRecDepth 20000
namespace Go.Ice.S1
open Go.Proofs
def firstI (p : Nat → Bool) (n : Nat) : Int := match (List.range n).find? p with
  | some i => i
  | none => -1
def anyI (p : Nat → Bool) (n : Nat) : Bool := (List.range n).any p
theorem find_hit {p : Nat → Bool} {n i : Nat} (h : ∀ k, k < i → p k = false) (hi : i < n) (hp : p i = true) : (List.range n).find? p = some i := by
  rw [List.find?_eq_some_iff_append]
  refine ⟨hp, List.range i, (List.range' (i + 1) (n - i - 1)), ?_, fun k hk => by simp [h k (by simpa using hk)]⟩
  rw [List.range_eq_range', List.range_eq_range', show n = i + (1 + (n - i - 1)) by omega, ← List.range'_append]
  rw [show 1 + (n - i - 1) = (n - i - 1) + 1 by omega, List.range'_succ]
  simp
theorem find_no {p : Nat → Bool} {n : Nat} (h : ∀ k, k < n → p k = false) : (List.range n).find? p = none := by
  rw [List.find?_eq_none]
  intro x hx
  simp [h x (by simpa using hx)]
theorem firstI_hit {p : Nat → Bool} {n i : Nat} (h : ∀ k, k < i → p k = false) (hi : i < n) (hp : p i = true) : firstI p n = i := by rw [firstI, find_hit h hi hp]
theorem firstI_no {p : Nat → Bool} {n : Nat} (h : ∀ k, k < n → p k = false) : firstI p n = -1 := by rw [firstI, find_no h]
theorem firstI_any {p : Nat → Bool} {n : Nat} : decide (0 ≤ firstI p n) = anyI p n := by
  unfold firstI anyI
  cases h : (List.range n).find? p with
  | none =>
    have : (List.range n).any p = false := by
      rw [List.any_eq_false]
      exact fun x hx => by simpa using List.find?_eq_none.1 h x hx
    rw [this]; rfl
  | some i =>
    have : (List.range n).any p = true := List.any_eq_true.2 ⟨i, List.mem_of_find?_eq_some h, List.find?_some h⟩
    rw [this]
    simp
def secB (s : List UInt8) : Bool := !((s.length : Int) == 64)
def secP (l : List (List UInt8)) (i : Nat) : Bool := secB (l.getD i [])
def S83 : FSpec where
  D := List UInt8
  pre _ := True
  args l := [.c (.nc (.f (bSl l)))]
  hin _ := []
  res l := .e (.bool (secB l))
  hout _ := []
  lend := true
  lends := fun _ d _ => ⟨trivial, fun i B h => by cases h⟩
theorem ok83 : S83.Ok Try.prog 83 := by
  refine FSpec.okN [] (fn := Try.f83) (c := Try.f83.body.getD .skip) TOk_T mixed Γ0 rfl rfl (fun d => rfl) ?_
  intro (l : List UInt8) hp hf hh
  conv => whnf
  repeat (first | (refine And.intro ?_ ?_; rotate_left; conv => whnf) | (refine .inl (And.intro ?_ ?_); rotate_left; conv => whnf))
  all_goals try (first | with_reducible rfl | with_reducible exact NC.Eqv.refl _ | exact NC.Eqv.refl _ | exact trivial | with_reducible exact (fun _ _ _ _ => NC.Eqv.refl _) | exact (fun _ _ _ _ => NC.Eqv.refl _) | (refine Ob.mk ?_; first | with_reducible rfl | omega | (dsimp only; omega) | rfl | exact trivial | (refine i64_of ?_ ?_ <;> omega) | (simp only [tB, Nat.zero_add, Int.toNat_natCast, true_and, and_true]; done) | (simp only [tB, Nat.zero_add, Int.toNat_natCast, true_and, and_true]; omega) | (intro _; first | omega | exact trivial | (refine i64_of ?_ ?_ <;> omega)) | exact ⟨rfl, fun _ _ => trivial⟩ | exact (fun _ => ⟨rfl, fun _ _ => trivial⟩) | ((repeat' (apply And.intro)) <;> first | rfl | exact trivial | (simp only [tB, Nat.zero_add, Int.toNat_natCast, true_and, and_true]; omega) | omega)) | omega | ((repeat' (apply And.intro)) <;> first | rfl | exact trivial | (simp only [tB, Nat.zero_add, Int.toNat_natCast, true_and, and_true]; omega) | omega | exact .inl rfl) | ((conv => whnf); (repeat' (apply And.intro)) <;> first | rfl | exact Ob.mk rfl | exact Ob.mk trivial))
theorem fnOk83 : FnOk Try.prog 83 := ⟨Try.f83, rfl, by decide, rfl⟩
def L2 : List (Nat × FSpec) := (83, S83) :: L1
theorem Γ2 : ΓOk Try.prog (lkG L2) := (Γ1).cons fnOk83 ok83
def SIsec : FSpec where
  D := List (List UInt8)
  pre _ := True
  args := fun l => [.c (.nc (.f (lSl l))), .c (.fn 83 [])]
  hin := fun l => []
  res := fun l => .e (.int .i64 (firstI (fun i => secB (l.getD i [])) l.length))
  hout := fun l => []
  lend := true
  lends := fun _ d _ => ⟨trivial, fun i B h => by cases h⟩
theorem okIsec : SIsec.Ok Try.prog 124 := by
  refine FSpec.okN [] (fn := Try.f124) (c := Try.f124.body.getD .skip) TOk_T mixed Γ2 rfl rfl (fun d => rfl) ?_
  intro l hp hf hh
  have hf1 : l.length ≤ 140737488355328 := hf.1.1
  conv => whnf
  refine ⟨{ i : Nat // i ≤ l.length ∧ ∀ j, j < i → (fun i => secB (l.getD i [])) j = false }, [0, 1, 7], fun ⟨i, _⟩ => [(8, .int .i64 (i : Int))], fun _ => [], fun ⟨i, _⟩ => l.length - i, ⟨⟨0, by omega, fun k h => absurd h (by omega)⟩, ?_⟩, ?_⟩
  · conv => whnf
    repeat (first | (refine And.intro ?_ ?_; rotate_left; conv => whnf) | (refine .inl (And.intro ?_ ?_); rotate_left; conv => whnf))
    all_goals try (first | with_reducible rfl | with_reducible exact NC.Eqv.refl _ | exact NC.Eqv.refl _ | exact trivial | with_reducible exact (fun _ _ _ _ => NC.Eqv.refl _) | exact (fun _ _ _ _ => NC.Eqv.refl _) | (refine Ob.mk ?_; first | with_reducible rfl | omega | (dsimp only; omega) | rfl | exact trivial | (refine i64_of ?_ ?_ <;> omega) | (simp only [tB, Nat.zero_add, Int.toNat_natCast, true_and, and_true]; done) | (simp only [tB, Nat.zero_add, Int.toNat_natCast, true_and, and_true]; omega) | (intro _; first | omega | exact trivial | (refine i64_of ?_ ?_ <;> omega)) | exact ⟨rfl, fun _ _ => trivial⟩ | exact (fun _ => ⟨rfl, fun _ _ => trivial⟩) | ((repeat' (apply And.intro)) <;> first | rfl | exact trivial | (simp only [tB, Nat.zero_add, Int.toNat_natCast, true_and, and_true]; omega) | omega)) | omega | ((repeat' (apply And.intro)) <;> first | rfl | exact trivial | (simp only [tB, Nat.zero_add, Int.toNat_natCast, true_and, and_true]; omega) | omega | exact .inl rfl) | ((conv => whnf); (repeat' (apply And.intro)) <;> first | rfl | exact Ob.mk rfl | exact Ob.mk trivial))
  rintro ⟨i, hi, hrow⟩
  conv => whnf
  refine ⟨fun h => ?_, fun h => ?_⟩
  · have h : (i : Int) < l.length := of_decide_eq_true h
    conv => whnf
    repeat (first | (refine And.intro ?_ ?_; rotate_left; conv => whnf) | (refine .inl (And.intro ?_ ?_); rotate_left; conv => whnf))
    refine ⟨(l.getD i []), ?_⟩
    conv => whnf
    repeat (first | (refine And.intro ?_ ?_; rotate_left; conv => whnf) | (refine .inl (And.intro ?_ ?_); rotate_left; conv => whnf))
    intro hr
    conv => whnf
    repeat (first | (refine And.intro ?_ ?_; rotate_left; conv => whnf) | (refine .inl (And.intro ?_ ?_); rotate_left; conv => whnf))
    refine ⟨fun h2 => ?_, fun h2 => ?_⟩
    · have e := firstI_hit (n := l.length) (p := (fun i => secB (l.getD i []))) hrow (by omega) h2
      conv => whnf
      repeat (first | (refine And.intro ?_ ?_; rotate_left; conv => whnf) | (refine .inl (And.intro ?_ ?_); rotate_left; conv => whnf))
      all_goals (try rw [e])
      all_goals try (first | with_reducible rfl | with_reducible exact NC.Eqv.refl _ | exact NC.Eqv.refl _ | exact trivial | with_reducible exact (fun _ _ _ _ => NC.Eqv.refl _) | exact (fun _ _ _ _ => NC.Eqv.refl _) | (refine Ob.mk ?_; first | with_reducible rfl | omega | (dsimp only; omega) | rfl | exact trivial | (refine i64_of ?_ ?_ <;> omega) | (simp only [tB, Nat.zero_add, Int.toNat_natCast, true_and, and_true]; done) | (simp only [tB, Nat.zero_add, Int.toNat_natCast, true_and, and_true]; omega) | (intro _; first | omega | exact trivial | (refine i64_of ?_ ?_ <;> omega)) | exact ⟨rfl, fun _ _ => trivial⟩ | exact (fun _ => ⟨rfl, fun _ _ => trivial⟩) | ((repeat' (apply And.intro)) <;> first | rfl | exact trivial | (simp only [tB, Nat.zero_add, Int.toNat_natCast, true_and, and_true]; omega) | omega)) | omega | ((repeat' (apply And.intro)) <;> first | rfl | exact trivial | (simp only [tB, Nat.zero_add, Int.toNat_natCast, true_and, and_true]; omega) | omega | exact .inl rfl) | ((conv => whnf); (repeat' (apply And.intro)) <;> first | rfl | exact Ob.mk rfl | exact Ob.mk trivial))
    · conv => whnf
      repeat (first | (refine And.intro ?_ ?_; rotate_left; conv => whnf) | (refine .inl (And.intro ?_ ?_); rotate_left; conv => whnf))
      refine ⟨⟨i + 1, by omega, fun k hk => ?_⟩, ?_⟩
      · by_cases e : k = i
        · rw [e]; exact h2
        · exact hrow k (by omega)
      conv => whnf
      repeat (first | (refine And.intro ?_ ?_; rotate_left; conv => whnf) | (refine .inl (And.intro ?_ ?_); rotate_left; conv => whnf))
      all_goals try (first | with_reducible rfl | with_reducible exact NC.Eqv.refl _ | exact NC.Eqv.refl _ | exact trivial | with_reducible exact (fun _ _ _ _ => NC.Eqv.refl _) | exact (fun _ _ _ _ => NC.Eqv.refl _) | (refine Ob.mk ?_; first | with_reducible rfl | omega | (dsimp only; omega) | rfl | exact trivial | (refine i64_of ?_ ?_ <;> omega) | (simp only [tB, Nat.zero_add, Int.toNat_natCast, true_and, and_true]; done) | (simp only [tB, Nat.zero_add, Int.toNat_natCast, true_and, and_true]; omega) | (intro _; first | omega | exact trivial | (refine i64_of ?_ ?_ <;> omega)) | exact ⟨rfl, fun _ _ => trivial⟩ | exact (fun _ => ⟨rfl, fun _ _ => trivial⟩) | ((repeat' (apply And.intro)) <;> first | rfl | exact trivial | (simp only [tB, Nat.zero_add, Int.toNat_natCast, true_and, and_true]; omega) | omega)) | omega | ((repeat' (apply And.intro)) <;> first | rfl | exact trivial | (simp only [tB, Nat.zero_add, Int.toNat_natCast, true_and, and_true]; omega) | omega | exact .inl rfl) | ((conv => whnf); (repeat' (apply And.intro)) <;> first | rfl | exact Ob.mk rfl | exact Ob.mk trivial))
    all_goals try (first | with_reducible rfl | with_reducible exact NC.Eqv.refl _ | exact NC.Eqv.refl _ | exact trivial | with_reducible exact (fun _ _ _ _ => NC.Eqv.refl _) | exact (fun _ _ _ _ => NC.Eqv.refl _) | (refine Ob.mk ?_; first | with_reducible rfl | omega | (dsimp only; omega) | rfl | exact trivial | (refine i64_of ?_ ?_ <;> omega) | (simp only [tB, Nat.zero_add, Int.toNat_natCast, true_and, and_true]; done) | (simp only [tB, Nat.zero_add, Int.toNat_natCast, true_and, and_true]; omega) | (intro _; first | omega | exact trivial | (refine i64_of ?_ ?_ <;> omega)) | exact ⟨rfl, fun _ _ => trivial⟩ | exact (fun _ => ⟨rfl, fun _ _ => trivial⟩) | ((repeat' (apply And.intro)) <;> first | rfl | exact trivial | (simp only [tB, Nat.zero_add, Int.toNat_natCast, true_and, and_true]; omega) | omega)) | omega | ((repeat' (apply And.intro)) <;> first | rfl | exact trivial | (simp only [tB, Nat.zero_add, Int.toNat_natCast, true_and, and_true]; omega) | omega | exact .inl rfl) | ((conv => whnf); (repeat' (apply And.intro)) <;> first | rfl | exact Ob.mk rfl | exact Ob.mk trivial))
  · have h : ¬ (i : Int) < l.length := of_decide_eq_false h
    have e : i = l.length := by omega
    subst e
    have e := firstI_no (p := (fun i => secB (l.getD i []))) hrow
    conv => whnf
    repeat (first | (refine And.intro ?_ ?_; rotate_left; conv => whnf) | (refine .inl (And.intro ?_ ?_); rotate_left; conv => whnf))
    all_goals (try rw [e])
    all_goals try (first | with_reducible rfl | with_reducible exact NC.Eqv.refl _ | exact NC.Eqv.refl _ | exact trivial | with_reducible exact (fun _ _ _ _ => NC.Eqv.refl _) | exact (fun _ _ _ _ => NC.Eqv.refl _) | (refine Ob.mk ?_; first | with_reducible rfl | omega | (dsimp only; omega) | rfl | exact trivial | (refine i64_of ?_ ?_ <;> omega) | (simp only [tB, Nat.zero_add, Int.toNat_natCast, true_and, and_true]; done) | (simp only [tB, Nat.zero_add, Int.toNat_natCast, true_and, and_true]; omega) | (intro _; first | omega | exact trivial | (refine i64_of ?_ ?_ <;> omega)) | exact ⟨rfl, fun _ _ => trivial⟩ | exact (fun _ => ⟨rfl, fun _ _ => trivial⟩) | ((repeat' (apply And.intro)) <;> first | rfl | exact trivial | (simp only [tB, Nat.zero_add, Int.toNat_natCast, true_and, and_true]; omega) | omega)) | omega | ((repeat' (apply And.intro)) <;> first | rfl | exact trivial | (simp only [tB, Nat.zero_add, Int.toNat_natCast, true_and, and_true]; omega) | omega | exact .inl rfl) | ((conv => whnf); (repeat' (apply And.intro)) <;> first | rfl | exact Ob.mk rfl | exact Ob.mk trivial))
theorem fnOk124 : FnOk Try.prog 124 := ⟨Try.f124, rfl, by decide, rfl⟩
def LIsec : List (Nat × FSpec) := (124, SIsec) :: L2
theorem ΓIsec : ΓOk Try.prog (lkG LIsec) := (Γ2).cons fnOk124 okIsec
def SCsec : FSpec where
  D := List (List UInt8)
  pre _ := True
  args := fun l => [.c (.nc (.f (lSl l))), .c (.fn 83 [])]
  hin := fun l => []
  res := fun l => .e (.bool (anyI (fun i => secB (l.getD i [])) l.length))
  hout := fun l => []
  lend := true
  lends := fun _ d _ => ⟨trivial, fun i B h => by cases h⟩
theorem okCsec : SCsec.Ok Try.prog 82 := by
  refine FSpec.okN [] (fn := Try.f82) (c := Try.f82.body.getD .skip) TOk_T mixed ΓIsec rfl rfl (fun d => rfl) ?_
  intro l hp hf hh
  conv => whnf
  repeat (first | (refine And.intro ?_ ?_; rotate_left; conv => whnf) | (refine .inl (And.intro ?_ ?_); rotate_left; conv => whnf))
  refine ⟨l, ?_⟩
  conv => whnf
  repeat (first | (refine And.intro ?_ ?_; rotate_left; conv => whnf) | (refine .inl (And.intro ?_ ?_); rotate_left; conv => whnf))
  intro hr
  conv => whnf
  repeat (first | (refine And.intro ?_ ?_; rotate_left; conv => whnf) | (refine .inl (And.intro ?_ ?_); rotate_left; conv => whnf))
  all_goals try (first | with_reducible rfl | with_reducible exact NC.Eqv.refl _ | exact NC.Eqv.refl _ | exact trivial | with_reducible exact (fun _ _ _ _ => NC.Eqv.refl _) | exact (fun _ _ _ _ => NC.Eqv.refl _) | (refine Ob.mk ?_; first | with_reducible rfl | omega | (dsimp only; omega) | rfl | exact trivial | (refine i64_of ?_ ?_ <;> omega) | (simp only [tB, Nat.zero_add, Int.toNat_natCast, true_and, and_true]; done) | (simp only [tB, Nat.zero_add, Int.toNat_natCast, true_and, and_true]; omega) | (intro _; first | omega | exact trivial | (refine i64_of ?_ ?_ <;> omega)) | exact ⟨rfl, fun _ _ => trivial⟩ | exact (fun _ => ⟨rfl, fun _ _ => trivial⟩) | ((repeat' (apply And.intro)) <;> first | rfl | exact trivial | (simp only [tB, Nat.zero_add, Int.toNat_natCast, true_and, and_true]; omega) | omega)) | omega | ((repeat' (apply And.intro)) <;> first | rfl | exact trivial | (simp only [tB, Nat.zero_add, Int.toNat_natCast, true_and, and_true]; omega) | omega | exact .inl rfl) | ((conv => whnf); (repeat' (apply And.intro)) <;> first | rfl | exact Ob.mk rfl | exact Ob.mk trivial))
  all_goals exact boolEqv firstI_any

end Go.Ice.S1
end

section
set_option linter.unusedVariables false
set_option linter.unusedSimpArgs false
set_option maxRecDepth 20000
namespace Go.Ice.S1
open Go.Proofs
structure Wr where
  (pos : Int)
  (data : List UInt8)
structure Vol where
  (data : List UInt8)
  (synced : Int)
  (gone : Bool)
instance : Inhabited Wr := ⟨⟨0, []⟩⟩
instance : Inhabited Vol := ⟨⟨[], 0, false⟩⟩
structure Dev where
  (safe : List (List UInt8))
  (cache : List Wr)
  (vols : List Vol)
  (fuel : Int)
def wF1 (w : Wr) : Nat → FC
  | 0 => .int .i64 w.pos
  | _ => bSl w.data
def wF (l : List Wr) : Nat → Nat → FC := fun i j => wF1 (l.getD i default) j
def wSl (l : List Wr) : FC := .sl 2 32 l.length (wF l)
def vF1 (v : Vol) : Nat → FC
  | 0 => bSl v.data
  | 1 => .int .i64 v.synced
  | _ => .bool v.gone
def vF (l : List Vol) : Nat → Nat → FC := fun i j => vF1 (l.getD i default) j
def vSl (l : List Vol) : FC := .sl 3 40 l.length (vF l)
def devC (d : Dev) : List Cell := [.nc (.f (lSl d.safe)), .nc (.f (wSl d.cache)), .nc (.f (vSl d.vols)), .int .i64 d.fuel]
def wrC (w : Wr) : List Cell := [.int .i64 w.pos, .nc (.f (bSl w.data))]
def volC (v : Vol) : List Cell := [.nc (.f (bSl v.data)), .int .i64 v.synced, .bool v.gone]
def wBad (d : Dev) (w : Wr) : Bool := bif bif decide (w.pos < 0) then true else decide ((d.safe.length : Int) ≤ w.pos) then true else !((w.data.length : Int) == 64)
def S85 : FSpec where
  D := Wr × Dev
  pre _ := True
  args := fun ⟨w, d⟩ => [.agg (wrC w), .c (.ptr 0 0 0 0)]
  hin := fun ⟨w, d⟩ => [(0, .var (devC d))]
  res := fun ⟨w, d⟩ => .e (.bool (wBad d w))
  hout := fun ⟨w, d⟩ => [(0, .var (devC d))]
  lend := false
  lends := fun h => by cases h
theorem ok85 : S85.Ok Try.prog 85 := by
  refine FSpec.okN [] (fn := Try.f85) (c := Try.f85.body.getD .skip) TOk_T mixed Γ0 rfl rfl (fun d => rfl) ?_
  rintro ⟨w, d⟩ hp hf hh
  conv => whnf
  repeat (first | (refine And.intro ?_ ?_; rotate_left; conv => whnf) | (refine .inl (And.intro ?_ ?_); rotate_left; conv => whnf))
  all_goals try (first | with_reducible rfl | with_reducible exact NC.Eqv.refl _ | exact NC.Eqv.refl _ | exact trivial | with_reducible exact (fun _ _ _ _ => NC.Eqv.refl _) | exact (fun _ _ _ _ => NC.Eqv.refl _) | (refine Ob.mk ?_; first | with_reducible rfl | omega | (dsimp only; omega) | rfl | exact trivial | (refine i64_of ?_ ?_ <;> omega) | (simp only [tB, Nat.zero_add, Int.toNat_natCast, true_and, and_true]; done) | (simp only [tB, Nat.zero_add, Int.toNat_natCast, true_and, and_true]; omega) | (intro _; first | omega | exact trivial | (refine i64_of ?_ ?_ <;> omega)) | exact ⟨rfl, fun _ _ => trivial⟩ | exact (fun _ => ⟨rfl, fun _ _ => trivial⟩) | ((repeat' (apply And.intro)) <;> first | rfl | exact trivial | (simp only [tB, Nat.zero_add, Int.toNat_natCast, true_and, and_true]; omega) | omega)) | omega | ((repeat' (apply And.intro)) <;> first | rfl | exact trivial | (simp only [tB, Nat.zero_add, Int.toNat_natCast, true_and, and_true]; omega) | omega | exact .inl rfl) | ((conv => whnf); (repeat' (apply And.intro)) <;> first | rfl | exact Ob.mk rfl | exact Ob.mk trivial))
theorem fnOk82 : FnOk Try.prog 82 := ⟨Try.f82, rfl, by decide, rfl⟩
theorem fnOk85 : FnOk Try.prog 85 := ⟨Try.f85, rfl, by decide, rfl⟩
def L4 : List (Nat × FSpec) := (82, SCsec) :: (85, S85) :: LIsec
theorem Γ4 : ΓOk Try.prog (lkG L4) := ((ΓIsec).cons fnOk85 ok85).cons fnOk82 okCsec
def wP (x : List Wr × Dev) (i : Nat) : Bool := wBad x.2 (x.1.getD i default)
def SIwr : FSpec where
  D := List (Wr) × Dev
  pre _ := True
  args := fun ⟨l, k⟩ => [.c (.nc (.f (wSl l))), .c (.fn 85 [0])]
  hin := fun ⟨l, k⟩ => [(0, .var (devC k))]
  res := fun ⟨l, k⟩ => .e (.int .i64 (firstI (fun i => wBad k (l.getD i default)) l.length))
  hout := fun ⟨l, k⟩ => [(0, .var (devC k))]
  lend := false
  lends := fun h => by cases h
theorem okIwr : SIwr.Ok Try.prog 125 := by
  refine FSpec.okN [] (fn := Try.f125) (c := Try.f125.body.getD .skip) TOk_T mixed Γ4 rfl rfl (fun d => rfl) ?_
  rintro ⟨l, k⟩ hp hf hh
  have hf1 : l.length ≤ 140737488355328 := hf.1.1
  conv => whnf
  refine ⟨{ i : Nat // i ≤ l.length ∧ ∀ j, j < i → (fun i => wBad k (l.getD i default)) j = false }, [0, 1, 7], fun ⟨i, _⟩ => [(8, .int .i64 (i : Int))], fun _ => [], fun ⟨i, _⟩ => l.length - i, ⟨⟨0, by omega, fun k h => absurd h (by omega)⟩, ?_⟩, ?_⟩
  · conv => whnf
    repeat (first | (refine And.intro ?_ ?_; rotate_left; conv => whnf) | (refine .inl (And.intro ?_ ?_); rotate_left; conv => whnf))
    all_goals try (first | with_reducible rfl | with_reducible exact NC.Eqv.refl _ | exact NC.Eqv.refl _ | exact trivial | with_reducible exact (fun _ _ _ _ => NC.Eqv.refl _) | exact (fun _ _ _ _ => NC.Eqv.refl _) | (refine Ob.mk ?_; first | with_reducible rfl | omega | (dsimp only; omega) | rfl | exact trivial | (refine i64_of ?_ ?_ <;> omega) | (simp only [tB, Nat.zero_add, Int.toNat_natCast, true_and, and_true]; done) | (simp only [tB, Nat.zero_add, Int.toNat_natCast, true_and, and_true]; omega) | (intro _; first | omega | exact trivial | (refine i64_of ?_ ?_ <;> omega)) | exact ⟨rfl, fun _ _ => trivial⟩ | exact (fun _ => ⟨rfl, fun _ _ => trivial⟩) | ((repeat' (apply And.intro)) <;> first | rfl | exact trivial | (simp only [tB, Nat.zero_add, Int.toNat_natCast, true_and, and_true]; omega) | omega)) | omega | ((repeat' (apply And.intro)) <;> first | rfl | exact trivial | (simp only [tB, Nat.zero_add, Int.toNat_natCast, true_and, and_true]; omega) | omega | exact .inl rfl) | ((conv => whnf); (repeat' (apply And.intro)) <;> first | rfl | exact Ob.mk rfl | exact Ob.mk trivial))
  rintro ⟨i, hi, hrow⟩
  conv => whnf
  refine ⟨fun h => ?_, fun h => ?_⟩
  · have h : (i : Int) < l.length := of_decide_eq_true h
    conv => whnf
    repeat (first | (refine And.intro ?_ ?_; rotate_left; conv => whnf) | (refine .inl (And.intro ?_ ?_); rotate_left; conv => whnf))
    refine ⟨(l.getD i default, k), ?_⟩
    conv => whnf
    repeat (first | (refine And.intro ?_ ?_; rotate_left; conv => whnf) | (refine .inl (And.intro ?_ ?_); rotate_left; conv => whnf))
    intro hr
    conv => whnf
    repeat (first | (refine And.intro ?_ ?_; rotate_left; conv => whnf) | (refine .inl (And.intro ?_ ?_); rotate_left; conv => whnf))
    refine ⟨fun h2 => ?_, fun h2 => ?_⟩
    · have e := firstI_hit (n := l.length) (p := (fun i => wBad k (l.getD i default))) hrow (by omega) h2
      conv => whnf
      repeat (first | (refine And.intro ?_ ?_; rotate_left; conv => whnf) | (refine .inl (And.intro ?_ ?_); rotate_left; conv => whnf))
      all_goals (try rw [e])
      all_goals try (first | with_reducible rfl | with_reducible exact NC.Eqv.refl _ | exact NC.Eqv.refl _ | exact trivial | with_reducible exact (fun _ _ _ _ => NC.Eqv.refl _) | exact (fun _ _ _ _ => NC.Eqv.refl _) | (refine Ob.mk ?_; first | with_reducible rfl | omega | (dsimp only; omega) | rfl | exact trivial | (refine i64_of ?_ ?_ <;> omega) | (simp only [tB, Nat.zero_add, Int.toNat_natCast, true_and, and_true]; done) | (simp only [tB, Nat.zero_add, Int.toNat_natCast, true_and, and_true]; omega) | (intro _; first | omega | exact trivial | (refine i64_of ?_ ?_ <;> omega)) | exact ⟨rfl, fun _ _ => trivial⟩ | exact (fun _ => ⟨rfl, fun _ _ => trivial⟩) | ((repeat' (apply And.intro)) <;> first | rfl | exact trivial | (simp only [tB, Nat.zero_add, Int.toNat_natCast, true_and, and_true]; omega) | omega)) | omega | ((repeat' (apply And.intro)) <;> first | rfl | exact trivial | (simp only [tB, Nat.zero_add, Int.toNat_natCast, true_and, and_true]; omega) | omega | exact .inl rfl) | ((conv => whnf); (repeat' (apply And.intro)) <;> first | rfl | exact Ob.mk rfl | exact Ob.mk trivial))
    · conv => whnf
      repeat (first | (refine And.intro ?_ ?_; rotate_left; conv => whnf) | (refine .inl (And.intro ?_ ?_); rotate_left; conv => whnf))
      refine ⟨⟨i + 1, by omega, fun k hk => ?_⟩, ?_⟩
      · by_cases e : k = i
        · rw [e]; exact h2
        · exact hrow k (by omega)
      conv => whnf
      repeat (first | (refine And.intro ?_ ?_; rotate_left; conv => whnf) | (refine .inl (And.intro ?_ ?_); rotate_left; conv => whnf))
      all_goals try (first | with_reducible rfl | with_reducible exact NC.Eqv.refl _ | exact NC.Eqv.refl _ | exact trivial | with_reducible exact (fun _ _ _ _ => NC.Eqv.refl _) | exact (fun _ _ _ _ => NC.Eqv.refl _) | (refine Ob.mk ?_; first | with_reducible rfl | omega | (dsimp only; omega) | rfl | exact trivial | (refine i64_of ?_ ?_ <;> omega) | (simp only [tB, Nat.zero_add, Int.toNat_natCast, true_and, and_true]; done) | (simp only [tB, Nat.zero_add, Int.toNat_natCast, true_and, and_true]; omega) | (intro _; first | omega | exact trivial | (refine i64_of ?_ ?_ <;> omega)) | exact ⟨rfl, fun _ _ => trivial⟩ | exact (fun _ => ⟨rfl, fun _ _ => trivial⟩) | ((repeat' (apply And.intro)) <;> first | rfl | exact trivial | (simp only [tB, Nat.zero_add, Int.toNat_natCast, true_and, and_true]; omega) | omega)) | omega | ((repeat' (apply And.intro)) <;> first | rfl | exact trivial | (simp only [tB, Nat.zero_add, Int.toNat_natCast, true_and, and_true]; omega) | omega | exact .inl rfl) | ((conv => whnf); (repeat' (apply And.intro)) <;> first | rfl | exact Ob.mk rfl | exact Ob.mk trivial))
    all_goals try (first | with_reducible rfl | with_reducible exact NC.Eqv.refl _ | exact NC.Eqv.refl _ | exact trivial | with_reducible exact (fun _ _ _ _ => NC.Eqv.refl _) | exact (fun _ _ _ _ => NC.Eqv.refl _) | (refine Ob.mk ?_; first | with_reducible rfl | omega | (dsimp only; omega) | rfl | exact trivial | (refine i64_of ?_ ?_ <;> omega) | (simp only [tB, Nat.zero_add, Int.toNat_natCast, true_and, and_true]; done) | (simp only [tB, Nat.zero_add, Int.toNat_natCast, true_and, and_true]; omega) | (intro _; first | omega | exact trivial | (refine i64_of ?_ ?_ <;> omega)) | exact ⟨rfl, fun _ _ => trivial⟩ | exact (fun _ => ⟨rfl, fun _ _ => trivial⟩) | ((repeat' (apply And.intro)) <;> first | rfl | exact trivial | (simp only [tB, Nat.zero_add, Int.toNat_natCast, true_and, and_true]; omega) | omega)) | omega | ((repeat' (apply And.intro)) <;> first | rfl | exact trivial | (simp only [tB, Nat.zero_add, Int.toNat_natCast, true_and, and_true]; omega) | omega | exact .inl rfl) | ((conv => whnf); (repeat' (apply And.intro)) <;> first | rfl | exact Ob.mk rfl | exact Ob.mk trivial))
  · have h : ¬ (i : Int) < l.length := of_decide_eq_false h
    have e : i = l.length := by omega
    subst e
    have e := firstI_no (p := (fun i => wBad k (l.getD i default))) hrow
    conv => whnf
    repeat (first | (refine And.intro ?_ ?_; rotate_left; conv => whnf) | (refine .inl (And.intro ?_ ?_); rotate_left; conv => whnf))
    all_goals (try rw [e])
    all_goals try (first | with_reducible rfl | with_reducible exact NC.Eqv.refl _ | exact NC.Eqv.refl _ | exact trivial | with_reducible exact (fun _ _ _ _ => NC.Eqv.refl _) | exact (fun _ _ _ _ => NC.Eqv.refl _) | (refine Ob.mk ?_; first | with_reducible rfl | omega | (dsimp only; omega) | rfl | exact trivial | (refine i64_of ?_ ?_ <;> omega) | (simp only [tB, Nat.zero_add, Int.toNat_natCast, true_and, and_true]; done) | (simp only [tB, Nat.zero_add, Int.toNat_natCast, true_and, and_true]; omega) | (intro _; first | omega | exact trivial | (refine i64_of ?_ ?_ <;> omega)) | exact ⟨rfl, fun _ _ => trivial⟩ | exact (fun _ => ⟨rfl, fun _ _ => trivial⟩) | ((repeat' (apply And.intro)) <;> first | rfl | exact trivial | (simp only [tB, Nat.zero_add, Int.toNat_natCast, true_and, and_true]; omega) | omega)) | omega | ((repeat' (apply And.intro)) <;> first | rfl | exact trivial | (simp only [tB, Nat.zero_add, Int.toNat_natCast, true_and, and_true]; omega) | omega | exact .inl rfl) | ((conv => whnf); (repeat' (apply And.intro)) <;> first | rfl | exact Ob.mk rfl | exact Ob.mk trivial))
theorem fnOk125 : FnOk Try.prog 125 := ⟨Try.f125, rfl, by decide, rfl⟩
def LIwr : List (Nat × FSpec) := (125, SIwr) :: L4
theorem ΓIwr : ΓOk Try.prog (lkG LIwr) := (Γ4).cons fnOk125 okIwr
def SCwr : FSpec where
  D := List (Wr) × Dev
  pre _ := True
  args := fun ⟨l, k⟩ => [.c (.nc (.f (wSl l))), .c (.fn 85 [0])]
  hin := fun ⟨l, k⟩ => [(0, .var (devC k))]
  res := fun ⟨l, k⟩ => .e (.bool (anyI (fun i => wBad k (l.getD i default)) l.length))
  hout := fun ⟨l, k⟩ => [(0, .var (devC k))]
  lend := false
  lends := fun h => by cases h
theorem okCwr : SCwr.Ok Try.prog 84 := by
  refine FSpec.okN [] (fn := Try.f84) (c := Try.f84.body.getD .skip) TOk_T mixed ΓIwr rfl rfl (fun d => rfl) ?_
  rintro ⟨l, k⟩ hp hf hh
  conv => whnf
  repeat (first | (refine And.intro ?_ ?_; rotate_left; conv => whnf) | (refine .inl (And.intro ?_ ?_); rotate_left; conv => whnf))
  refine ⟨(l, k), ?_⟩
  conv => whnf
  repeat (first | (refine And.intro ?_ ?_; rotate_left; conv => whnf) | (refine .inl (And.intro ?_ ?_); rotate_left; conv => whnf))
  intro hr
  conv => whnf
  repeat (first | (refine And.intro ?_ ?_; rotate_left; conv => whnf) | (refine .inl (And.intro ?_ ?_); rotate_left; conv => whnf))
  all_goals try (first | with_reducible rfl | with_reducible exact NC.Eqv.refl _ | exact NC.Eqv.refl _ | exact trivial | with_reducible exact (fun _ _ _ _ => NC.Eqv.refl _) | exact (fun _ _ _ _ => NC.Eqv.refl _) | (refine Ob.mk ?_; first | with_reducible rfl | omega | (dsimp only; omega) | rfl | exact trivial | (refine i64_of ?_ ?_ <;> omega) | (simp only [tB, Nat.zero_add, Int.toNat_natCast, true_and, and_true]; done) | (simp only [tB, Nat.zero_add, Int.toNat_natCast, true_and, and_true]; omega) | (intro _; first | omega | exact trivial | (refine i64_of ?_ ?_ <;> omega)) | exact ⟨rfl, fun _ _ => trivial⟩ | exact (fun _ => ⟨rfl, fun _ _ => trivial⟩) | ((repeat' (apply And.intro)) <;> first | rfl | exact trivial | (simp only [tB, Nat.zero_add, Int.toNat_natCast, true_and, and_true]; omega) | omega)) | omega | ((repeat' (apply And.intro)) <;> first | rfl | exact trivial | (simp only [tB, Nat.zero_add, Int.toNat_natCast, true_and, and_true]; omega) | omega | exact .inl rfl) | ((conv => whnf); (repeat' (apply And.intro)) <;> first | rfl | exact Ob.mk rfl | exact Ob.mk trivial))
  all_goals exact boolEqv firstI_any

end Go.Ice.S1
end

section
set_option linter.unusedVariables false
set_option linter.unusedSimpArgs false
set_option maxRecDepth 20000
namespace Go.Ice.S1
open Go.Proofs
def vBad (g : Geo) (v : Vol) : Bool := bif bif bif decide (g.volume < (v.data.length : Int)) then true else decide (v.synced < 0) then true else decide ((v.data.length : Int) < v.synced) then true else (bif v.gone then decide ((0 : Int) < v.data.length) else false)
def S87 : FSpec where
  D := Vol × Geo
  pre _ := True
  args := fun ⟨w, d⟩ => [.agg (volC w), .c (.ptr 0 0 0 0)]
  hin := fun ⟨w, d⟩ => [(0, .var (Geo.cells d))]
  res := fun ⟨w, d⟩ => .e (.bool (vBad d w))
  hout := fun ⟨w, d⟩ => [(0, .var (Geo.cells d))]
  lend := false
  lends := fun h => by cases h
theorem ok87 : S87.Ok Try.prog 87 := by
  refine FSpec.okN [] (fn := Try.f87) (c := Try.f87.body.getD .skip) TOk_T mixed Γ0 rfl rfl (fun d => rfl) ?_
  rintro ⟨w, d⟩ hp hf hh
  conv => whnf
  repeat (first | (refine And.intro ?_ ?_; rotate_left; conv => whnf) | (refine .inl (And.intro ?_ ?_); rotate_left; conv => whnf))
  all_goals try (first | with_reducible rfl | with_reducible exact NC.Eqv.refl _ | exact NC.Eqv.refl _ | exact trivial | with_reducible exact (fun _ _ _ _ => NC.Eqv.refl _) | exact (fun _ _ _ _ => NC.Eqv.refl _) | (refine Ob.mk ?_; first | with_reducible rfl | omega | (dsimp only; omega) | rfl | exact trivial | (refine i64_of ?_ ?_ <;> omega) | (simp only [tB, Nat.zero_add, Int.toNat_natCast, true_and, and_true]; done) | (simp only [tB, Nat.zero_add, Int.toNat_natCast, true_and, and_true]; omega) | (intro _; first | omega | exact trivial | (refine i64_of ?_ ?_ <;> omega)) | exact ⟨rfl, fun _ _ => trivial⟩ | exact (fun _ => ⟨rfl, fun _ _ => trivial⟩) | ((repeat' (apply And.intro)) <;> first | rfl | exact trivial | (simp only [tB, Nat.zero_add, Int.toNat_natCast, true_and, and_true]; omega) | omega)) | omega | ((repeat' (apply And.intro)) <;> first | rfl | exact trivial | (simp only [tB, Nat.zero_add, Int.toNat_natCast, true_and, and_true]; omega) | omega | exact .inl rfl) | ((conv => whnf); (repeat' (apply And.intro)) <;> first | rfl | exact Ob.mk rfl | exact Ob.mk trivial))
theorem fnOk84 : FnOk Try.prog 84 := ⟨Try.f84, rfl, by decide, rfl⟩
theorem fnOk87 : FnOk Try.prog 87 := ⟨Try.f87, rfl, by decide, rfl⟩
def L6 : List (Nat × FSpec) := (84, SCwr) :: (87, S87) :: LIwr
theorem Γ6 : ΓOk Try.prog (lkG L6) := ((ΓIwr).cons fnOk87 ok87).cons fnOk84 okCwr
def vP (x : List Vol × Geo) (i : Nat) : Bool := vBad x.2 (x.1.getD i default)
def SIvol : FSpec where
  D := List (Vol) × Geo
  pre _ := True
  args := fun ⟨l, k⟩ => [.c (.nc (.f (vSl l))), .c (.fn 87 [0])]
  hin := fun ⟨l, k⟩ => [(0, .var (Geo.cells k))]
  res := fun ⟨l, k⟩ => .e (.int .i64 (firstI (fun i => vBad k (l.getD i default)) l.length))
  hout := fun ⟨l, k⟩ => [(0, .var (Geo.cells k))]
  lend := false
  lends := fun h => by cases h
theorem okIvol : SIvol.Ok Try.prog 126 := by
  refine FSpec.okN [] (fn := Try.f126) (c := Try.f126.body.getD .skip) TOk_T mixed Γ6 rfl rfl (fun d => rfl) ?_
  rintro ⟨l, k⟩ hp hf hh
  have hf1 : l.length ≤ 140737488355328 := hf.1.1
  conv => whnf
  refine ⟨{ i : Nat // i ≤ l.length ∧ ∀ j, j < i → (fun i => vBad k (l.getD i default)) j = false }, [0, 1, 7], fun ⟨i, _⟩ => [(8, .int .i64 (i : Int))], fun _ => [], fun ⟨i, _⟩ => l.length - i, ⟨⟨0, by omega, fun k h => absurd h (by omega)⟩, ?_⟩, ?_⟩
  · conv => whnf
    repeat (first | (refine And.intro ?_ ?_; rotate_left; conv => whnf) | (refine .inl (And.intro ?_ ?_); rotate_left; conv => whnf))
    all_goals try (first | with_reducible rfl | with_reducible exact NC.Eqv.refl _ | exact NC.Eqv.refl _ | exact trivial | with_reducible exact (fun _ _ _ _ => NC.Eqv.refl _) | exact (fun _ _ _ _ => NC.Eqv.refl _) | (refine Ob.mk ?_; first | with_reducible rfl | omega | (dsimp only; omega) | rfl | exact trivial | (refine i64_of ?_ ?_ <;> omega) | (simp only [tB, Nat.zero_add, Int.toNat_natCast, true_and, and_true]; done) | (simp only [tB, Nat.zero_add, Int.toNat_natCast, true_and, and_true]; omega) | (intro _; first | omega | exact trivial | (refine i64_of ?_ ?_ <;> omega)) | exact ⟨rfl, fun _ _ => trivial⟩ | exact (fun _ => ⟨rfl, fun _ _ => trivial⟩) | ((repeat' (apply And.intro)) <;> first | rfl | exact trivial | (simp only [tB, Nat.zero_add, Int.toNat_natCast, true_and, and_true]; omega) | omega)) | omega | ((repeat' (apply And.intro)) <;> first | rfl | exact trivial | (simp only [tB, Nat.zero_add, Int.toNat_natCast, true_and, and_true]; omega) | omega | exact .inl rfl) | ((conv => whnf); (repeat' (apply And.intro)) <;> first | rfl | exact Ob.mk rfl | exact Ob.mk trivial))
  rintro ⟨i, hi, hrow⟩
  conv => whnf
  refine ⟨fun h => ?_, fun h => ?_⟩
  · have h : (i : Int) < l.length := of_decide_eq_true h
    conv => whnf
    repeat (first | (refine And.intro ?_ ?_; rotate_left; conv => whnf) | (refine .inl (And.intro ?_ ?_); rotate_left; conv => whnf))
    refine ⟨(l.getD i default, k), ?_⟩
    conv => whnf
    repeat (first | (refine And.intro ?_ ?_; rotate_left; conv => whnf) | (refine .inl (And.intro ?_ ?_); rotate_left; conv => whnf))
    intro hr
    conv => whnf
    repeat (first | (refine And.intro ?_ ?_; rotate_left; conv => whnf) | (refine .inl (And.intro ?_ ?_); rotate_left; conv => whnf))
    refine ⟨fun h2 => ?_, fun h2 => ?_⟩
    · have e := firstI_hit (n := l.length) (p := (fun i => vBad k (l.getD i default))) hrow (by omega) h2
      conv => whnf
      repeat (first | (refine And.intro ?_ ?_; rotate_left; conv => whnf) | (refine .inl (And.intro ?_ ?_); rotate_left; conv => whnf))
      all_goals (try rw [e])
      all_goals try (first | with_reducible rfl | with_reducible exact NC.Eqv.refl _ | exact NC.Eqv.refl _ | exact trivial | with_reducible exact (fun _ _ _ _ => NC.Eqv.refl _) | exact (fun _ _ _ _ => NC.Eqv.refl _) | (refine Ob.mk ?_; first | with_reducible rfl | omega | (dsimp only; omega) | rfl | exact trivial | (refine i64_of ?_ ?_ <;> omega) | (simp only [tB, Nat.zero_add, Int.toNat_natCast, true_and, and_true]; done) | (simp only [tB, Nat.zero_add, Int.toNat_natCast, true_and, and_true]; omega) | (intro _; first | omega | exact trivial | (refine i64_of ?_ ?_ <;> omega)) | exact ⟨rfl, fun _ _ => trivial⟩ | exact (fun _ => ⟨rfl, fun _ _ => trivial⟩) | ((repeat' (apply And.intro)) <;> first | rfl | exact trivial | (simp only [tB, Nat.zero_add, Int.toNat_natCast, true_and, and_true]; omega) | omega)) | omega | ((repeat' (apply And.intro)) <;> first | rfl | exact trivial | (simp only [tB, Nat.zero_add, Int.toNat_natCast, true_and, and_true]; omega) | omega | exact .inl rfl) | ((conv => whnf); (repeat' (apply And.intro)) <;> first | rfl | exact Ob.mk rfl | exact Ob.mk trivial))
    · conv => whnf
      repeat (first | (refine And.intro ?_ ?_; rotate_left; conv => whnf) | (refine .inl (And.intro ?_ ?_); rotate_left; conv => whnf))
      refine ⟨⟨i + 1, by omega, fun k hk => ?_⟩, ?_⟩
      · by_cases e : k = i
        · rw [e]; exact h2
        · exact hrow k (by omega)
      conv => whnf
      repeat (first | (refine And.intro ?_ ?_; rotate_left; conv => whnf) | (refine .inl (And.intro ?_ ?_); rotate_left; conv => whnf))
      all_goals try (first | with_reducible rfl | with_reducible exact NC.Eqv.refl _ | exact NC.Eqv.refl _ | exact trivial | with_reducible exact (fun _ _ _ _ => NC.Eqv.refl _) | exact (fun _ _ _ _ => NC.Eqv.refl _) | (refine Ob.mk ?_; first | with_reducible rfl | omega | (dsimp only; omega) | rfl | exact trivial | (refine i64_of ?_ ?_ <;> omega) | (simp only [tB, Nat.zero_add, Int.toNat_natCast, true_and, and_true]; done) | (simp only [tB, Nat.zero_add, Int.toNat_natCast, true_and, and_true]; omega) | (intro _; first | omega | exact trivial | (refine i64_of ?_ ?_ <;> omega)) | exact ⟨rfl, fun _ _ => trivial⟩ | exact (fun _ => ⟨rfl, fun _ _ => trivial⟩) | ((repeat' (apply And.intro)) <;> first | rfl | exact trivial | (simp only [tB, Nat.zero_add, Int.toNat_natCast, true_and, and_true]; omega) | omega)) | omega | ((repeat' (apply And.intro)) <;> first | rfl | exact trivial | (simp only [tB, Nat.zero_add, Int.toNat_natCast, true_and, and_true]; omega) | omega | exact .inl rfl) | ((conv => whnf); (repeat' (apply And.intro)) <;> first | rfl | exact Ob.mk rfl | exact Ob.mk trivial))
    all_goals try (first | with_reducible rfl | with_reducible exact NC.Eqv.refl _ | exact NC.Eqv.refl _ | exact trivial | with_reducible exact (fun _ _ _ _ => NC.Eqv.refl _) | exact (fun _ _ _ _ => NC.Eqv.refl _) | (refine Ob.mk ?_; first | with_reducible rfl | omega | (dsimp only; omega) | rfl | exact trivial | (refine i64_of ?_ ?_ <;> omega) | (simp only [tB, Nat.zero_add, Int.toNat_natCast, true_and, and_true]; done) | (simp only [tB, Nat.zero_add, Int.toNat_natCast, true_and, and_true]; omega) | (intro _; first | omega | exact trivial | (refine i64_of ?_ ?_ <;> omega)) | exact ⟨rfl, fun _ _ => trivial⟩ | exact (fun _ => ⟨rfl, fun _ _ => trivial⟩) | ((repeat' (apply And.intro)) <;> first | rfl | exact trivial | (simp only [tB, Nat.zero_add, Int.toNat_natCast, true_and, and_true]; omega) | omega)) | omega | ((repeat' (apply And.intro)) <;> first | rfl | exact trivial | (simp only [tB, Nat.zero_add, Int.toNat_natCast, true_and, and_true]; omega) | omega | exact .inl rfl) | ((conv => whnf); (repeat' (apply And.intro)) <;> first | rfl | exact Ob.mk rfl | exact Ob.mk trivial))
  · have h : ¬ (i : Int) < l.length := of_decide_eq_false h
    have e : i = l.length := by omega
    subst e
    have e := firstI_no (p := (fun i => vBad k (l.getD i default))) hrow
    conv => whnf
    repeat (first | (refine And.intro ?_ ?_; rotate_left; conv => whnf) | (refine .inl (And.intro ?_ ?_); rotate_left; conv => whnf))
    all_goals (try rw [e])
    all_goals try (first | with_reducible rfl | with_reducible exact NC.Eqv.refl _ | exact NC.Eqv.refl _ | exact trivial | with_reducible exact (fun _ _ _ _ => NC.Eqv.refl _) | exact (fun _ _ _ _ => NC.Eqv.refl _) | (refine Ob.mk ?_; first | with_reducible rfl | omega | (dsimp only; omega) | rfl | exact trivial | (refine i64_of ?_ ?_ <;> omega) | (simp only [tB, Nat.zero_add, Int.toNat_natCast, true_and, and_true]; done) | (simp only [tB, Nat.zero_add, Int.toNat_natCast, true_and, and_true]; omega) | (intro _; first | omega | exact trivial | (refine i64_of ?_ ?_ <;> omega)) | exact ⟨rfl, fun _ _ => trivial⟩ | exact (fun _ => ⟨rfl, fun _ _ => trivial⟩) | ((repeat' (apply And.intro)) <;> first | rfl | exact trivial | (simp only [tB, Nat.zero_add, Int.toNat_natCast, true_and, and_true]; omega) | omega)) | omega | ((repeat' (apply And.intro)) <;> first | rfl | exact trivial | (simp only [tB, Nat.zero_add, Int.toNat_natCast, true_and, and_true]; omega) | omega | exact .inl rfl) | ((conv => whnf); (repeat' (apply And.intro)) <;> first | rfl | exact Ob.mk rfl | exact Ob.mk trivial))
theorem fnOk126 : FnOk Try.prog 126 := ⟨Try.f126, rfl, by decide, rfl⟩
def LIvol : List (Nat × FSpec) := (126, SIvol) :: L6
theorem ΓIvol : ΓOk Try.prog (lkG LIvol) := (Γ6).cons fnOk126 okIvol
def SCvol : FSpec where
  D := List (Vol) × Geo
  pre _ := True
  args := fun ⟨l, k⟩ => [.c (.nc (.f (vSl l))), .c (.fn 87 [0])]
  hin := fun ⟨l, k⟩ => [(0, .var (Geo.cells k))]
  res := fun ⟨l, k⟩ => .e (.bool (anyI (fun i => vBad k (l.getD i default)) l.length))
  hout := fun ⟨l, k⟩ => [(0, .var (Geo.cells k))]
  lend := false
  lends := fun h => by cases h
theorem okCvol : SCvol.Ok Try.prog 86 := by
  refine FSpec.okN [] (fn := Try.f86) (c := Try.f86.body.getD .skip) TOk_T mixed ΓIvol rfl rfl (fun d => rfl) ?_
  rintro ⟨l, k⟩ hp hf hh
  conv => whnf
  repeat (first | (refine And.intro ?_ ?_; rotate_left; conv => whnf) | (refine .inl (And.intro ?_ ?_); rotate_left; conv => whnf))
  refine ⟨(l, k), ?_⟩
  conv => whnf
  repeat (first | (refine And.intro ?_ ?_; rotate_left; conv => whnf) | (refine .inl (And.intro ?_ ?_); rotate_left; conv => whnf))
  intro hr
  conv => whnf
  repeat (first | (refine And.intro ?_ ?_; rotate_left; conv => whnf) | (refine .inl (And.intro ?_ ?_); rotate_left; conv => whnf))
  all_goals try (first | with_reducible rfl | with_reducible exact NC.Eqv.refl _ | exact NC.Eqv.refl _ | exact trivial | with_reducible exact (fun _ _ _ _ => NC.Eqv.refl _) | exact (fun _ _ _ _ => NC.Eqv.refl _) | (refine Ob.mk ?_; first | with_reducible rfl | omega | (dsimp only; omega) | rfl | exact trivial | (refine i64_of ?_ ?_ <;> omega) | (simp only [tB, Nat.zero_add, Int.toNat_natCast, true_and, and_true]; done) | (simp only [tB, Nat.zero_add, Int.toNat_natCast, true_and, and_true]; omega) | (intro _; first | omega | exact trivial | (refine i64_of ?_ ?_ <;> omega)) | exact ⟨rfl, fun _ _ => trivial⟩ | exact (fun _ => ⟨rfl, fun _ _ => trivial⟩) | ((repeat' (apply And.intro)) <;> first | rfl | exact trivial | (simp only [tB, Nat.zero_add, Int.toNat_natCast, true_and, and_true]; omega) | omega)) | omega | ((repeat' (apply And.intro)) <;> first | rfl | exact trivial | (simp only [tB, Nat.zero_add, Int.toNat_natCast, true_and, and_true]; omega) | omega | exact .inl rfl) | ((conv => whnf); (repeat' (apply And.intro)) <;> first | rfl | exact Ob.mk rfl | exact Ob.mk trivial))
  all_goals exact boolEqv firstI_any

end Go.Ice.S1
end

section
set_option linter.unusedVariables false
set_option linter.unusedSimpArgs false
set_option maxRecDepth 20000
namespace Go.Ice.S1
open Go.Proofs
theorem fnOk80 : FnOk Try.prog 80 := ⟨Try.f80, rfl, by decide, rfl⟩
theorem fnOk81 : FnOk Try.prog 81 := ⟨Try.f81, rfl, by decide, rfl⟩
theorem fnOk86 : FnOk Try.prog 86 := ⟨Try.f86, rfl, by decide, rfl⟩
def L8 : List (Nat × FSpec) := (80, S80) :: (81, SSec) :: (86, SCvol) :: LIvol
theorem Γ8 : ΓOk Try.prog (lkG L8) := (((ΓIvol).cons fnOk86 okCvol).cons fnOk81 ok81).cons fnOk80 ok80
def shape (g : Geo) (d : Dev) : Bool := (d.safe.length : Int) == nSec g && decide ((d.cache.length : Int) ≤ 2000) && decide ((d.vols.length : Int) ≤ g.volumes) && In d.fuel (-1) 1048576
def devOk (g : Geo) (d : Dev) : Bool := shape g d && !(anyI (secP d.safe) d.safe.length) && !(anyI (wP (d.cache, d)) d.cache.length) && !(anyI (vP (d.vols, g)) d.vols.length)
def checkE (g : Geo) (d : Dev) : Int := if geoOk g then (if devOk g d then 0 else 9) else 2
def S24 : FSpec where
  D := Geo × Dev
  pre _ := True
  args := fun ⟨g, d⟩ => [.agg g.cells, .agg (devC d)]
  hin _ := []
  res := fun ⟨g, d⟩ => .e (.int .i64 (checkE g d))
  hout _ := []
  lend := true
  lends := fun _ d _ => ⟨trivial, fun i B h => by cases h⟩
theorem not_le_b (a b : Int) : decide (a < b) = !(decide (b ≤ a)) := by
  by_cases h : a < b
  · simp [h]
  · simp [h]; omega
theorem shape_t (a : Bool) (c v vs f : Int) : (bif bif bif bif !a then true else decide (2000 < c) then true else decide (vs < v) then true else decide (f < -1) then true else decide (1048576 < f)) =
    !(a && decide (c ≤ 2000) && decide (v ≤ vs) && In f (-1) 1048576) := by
  rw [not_le_b 2000 c, not_le_b vs v, not_le_b f (-1), not_le_b 1048576 f]
  simp only [In]
  cases a <;> cases decide (c ≤ 2000) <;> cases decide (v ≤ vs) <;> cases decide (-1 ≤ f) <;> cases decide (f ≤ 1048576) <;> rfl
theorem check_no {g : Geo} {d : Dev} (hg : geoOk g = true) (h : devOk g d = false) : checkE g d = 9 := by simp [checkE, hg, h]
theorem check_geo {g : Geo} {d : Dev} (hg : geoOk g = false) : checkE g d = (if geoOk g then 0 else 2) := by simp [checkE, hg]
theorem check_yes {g : Geo} {d : Dev} (hg : geoOk g = true) (h : devOk g d = true) : checkE g d = 0 := by simp [checkE, hg, h]
theorem geo_dec {g : Geo} (h : (!(if geoOk g then (0 : Int) else 2) == 0) = true) : geoOk g = false := by
  cases hc : geoOk g with
  | false => rfl
  | true => rw [hc] at h; cases h
theorem geo_dec' {g : Geo} (h : (!(if geoOk g then (0 : Int) else 2) == 0) = false) : geoOk g = true := by
  cases hc : geoOk g with
  | true => rfl
  | false => rw [hc] at h; cases h
theorem ok24 : S24.Ok Try.prog 24 := by
  refine FSpec.okN [] (fn := Try.f24) (c := Try.f24.body.getD .skip) TOk_T mixed Γ8 rfl rfl (fun d => rfl) ?_
  rintro ⟨g, d⟩ hp hf hh
  conv => whnf
  repeat (first | (refine And.intro ?_ ?_; rotate_left; conv => whnf) | (refine .inl (And.intro ?_ ?_); rotate_left; conv => whnf))
  refine ⟨g, ?_⟩
  conv => whnf
  repeat (first | (refine And.intro ?_ ?_; rotate_left; conv => whnf) | (refine .inl (And.intro ?_ ?_); rotate_left; conv => whnf))
  intro hr
  conv => whnf
  repeat (first | (refine And.intro ?_ ?_; rotate_left; conv => whnf) | (refine .inl (And.intro ?_ ?_); rotate_left; conv => whnf))
  refine ⟨fun h => ?_, fun h => ?_⟩
  · have e := check_geo (d := d) (geo_dec h)
    conv => whnf
    repeat (first | (refine And.intro ?_ ?_; rotate_left; conv => whnf) | (refine .inl (And.intro ?_ ?_); rotate_left; conv => whnf))
    all_goals (try rw [e])
    all_goals try (first | with_reducible rfl | with_reducible exact NC.Eqv.refl _ | exact NC.Eqv.refl _ | exact trivial | with_reducible exact (fun _ _ _ _ => NC.Eqv.refl _) | exact (fun _ _ _ _ => NC.Eqv.refl _) | (refine Ob.mk ?_; first | with_reducible rfl | omega | (dsimp only; omega) | rfl | exact trivial | (refine i64_of ?_ ?_ <;> omega) | (simp only [tB, Nat.zero_add, Int.toNat_natCast, true_and, and_true]; done) | (simp only [tB, Nat.zero_add, Int.toNat_natCast, true_and, and_true]; omega) | (intro _; first | omega | exact trivial | (refine i64_of ?_ ?_ <;> omega)) | exact ⟨rfl, fun _ _ => trivial⟩ | exact (fun _ => ⟨rfl, fun _ _ => trivial⟩) | ((repeat' (apply And.intro)) <;> first | rfl | exact trivial | (simp only [tB, Nat.zero_add, Int.toNat_natCast, true_and, and_true]; omega) | omega)) | omega | ((repeat' (apply And.intro)) <;> first | rfl | exact trivial | (simp only [tB, Nat.zero_add, Int.toNat_natCast, true_and, and_true]; omega) | omega | exact .inl rfl) | ((conv => whnf); (repeat' (apply And.intro)) <;> first | rfl | exact Ob.mk rfl | exact Ob.mk trivial))
  have hg := geo_dec' h
  conv => whnf
  repeat (first | (refine And.intro ?_ ?_; rotate_left; conv => whnf) | (refine .inl (And.intro ?_ ?_); rotate_left; conv => whnf))
  refine ⟨g, ?_⟩
  conv => whnf
  repeat (first | (refine And.intro ?_ ?_; rotate_left; conv => whnf) | (refine .inl (And.intro ?_ ?_); rotate_left; conv => whnf))
  intro hr
  conv => whnf
  repeat (first | (refine And.intro ?_ ?_; rotate_left; conv => whnf) | (refine .inl (And.intro ?_ ?_); rotate_left; conv => whnf))
  refine ⟨fun h2 => ?_, fun h2 => ?_⟩
  · have h2 := (shape_t _ _ _ _ _).symm.trans h2
    have hs : shape g d = false := by unfold shape; simpa only [Bool.not_eq_true'] using h2
    have e := check_no hg (d := d) (by simp [devOk, hs])
    conv => whnf
    repeat (first | (refine And.intro ?_ ?_; rotate_left; conv => whnf) | (refine .inl (And.intro ?_ ?_); rotate_left; conv => whnf))
    all_goals (try rw [e])
    all_goals try (first | with_reducible rfl | with_reducible exact NC.Eqv.refl _ | exact NC.Eqv.refl _ | exact trivial | with_reducible exact (fun _ _ _ _ => NC.Eqv.refl _) | exact (fun _ _ _ _ => NC.Eqv.refl _) | (refine Ob.mk ?_; first | with_reducible rfl | omega | (dsimp only; omega) | rfl | exact trivial | (refine i64_of ?_ ?_ <;> omega) | (simp only [tB, Nat.zero_add, Int.toNat_natCast, true_and, and_true]; done) | (simp only [tB, Nat.zero_add, Int.toNat_natCast, true_and, and_true]; omega) | (intro _; first | omega | exact trivial | (refine i64_of ?_ ?_ <;> omega)) | exact ⟨rfl, fun _ _ => trivial⟩ | exact (fun _ => ⟨rfl, fun _ _ => trivial⟩) | ((repeat' (apply And.intro)) <;> first | rfl | exact trivial | (simp only [tB, Nat.zero_add, Int.toNat_natCast, true_and, and_true]; omega) | omega)) | omega | ((repeat' (apply And.intro)) <;> first | rfl | exact trivial | (simp only [tB, Nat.zero_add, Int.toNat_natCast, true_and, and_true]; omega) | omega | exact .inl rfl) | ((conv => whnf); (repeat' (apply And.intro)) <;> first | rfl | exact Ob.mk rfl | exact Ob.mk trivial))
  have h2 := (shape_t _ _ _ _ _).symm.trans h2
  have hs : shape g d = true := by unfold shape; simpa only [Bool.not_eq_false'] using h2
  conv => whnf
  repeat (first | (refine And.intro ?_ ?_; rotate_left; conv => whnf) | (refine .inl (And.intro ?_ ?_); rotate_left; conv => whnf))
  refine ⟨d.safe, ?_⟩
  conv => whnf
  repeat (first | (refine And.intro ?_ ?_; rotate_left; conv => whnf) | (refine .inl (And.intro ?_ ?_); rotate_left; conv => whnf))
  intro hr
  conv => whnf
  repeat (first | (refine And.intro ?_ ?_; rotate_left; conv => whnf) | (refine .inl (And.intro ?_ ?_); rotate_left; conv => whnf))
  refine ⟨fun h3 => ?_, fun h3 => ?_⟩
  · have e := check_no hg (d := d) (by simp [devOk, show anyI (secP d.safe) d.safe.length = true from h3])
    conv => whnf
    repeat (first | (refine And.intro ?_ ?_; rotate_left; conv => whnf) | (refine .inl (And.intro ?_ ?_); rotate_left; conv => whnf))
    all_goals (try rw [e])
    all_goals try (first | with_reducible rfl | with_reducible exact NC.Eqv.refl _ | exact NC.Eqv.refl _ | exact trivial | with_reducible exact (fun _ _ _ _ => NC.Eqv.refl _) | exact (fun _ _ _ _ => NC.Eqv.refl _) | (refine Ob.mk ?_; first | with_reducible rfl | omega | (dsimp only; omega) | rfl | exact trivial | (refine i64_of ?_ ?_ <;> omega) | (simp only [tB, Nat.zero_add, Int.toNat_natCast, true_and, and_true]; done) | (simp only [tB, Nat.zero_add, Int.toNat_natCast, true_and, and_true]; omega) | (intro _; first | omega | exact trivial | (refine i64_of ?_ ?_ <;> omega)) | exact ⟨rfl, fun _ _ => trivial⟩ | exact (fun _ => ⟨rfl, fun _ _ => trivial⟩) | ((repeat' (apply And.intro)) <;> first | rfl | exact trivial | (simp only [tB, Nat.zero_add, Int.toNat_natCast, true_and, and_true]; omega) | omega)) | omega | ((repeat' (apply And.intro)) <;> first | rfl | exact trivial | (simp only [tB, Nat.zero_add, Int.toNat_natCast, true_and, and_true]; omega) | omega | exact .inl rfl) | ((conv => whnf); (repeat' (apply And.intro)) <;> first | rfl | exact Ob.mk rfl | exact Ob.mk trivial))
  conv => whnf
  repeat (first | (refine And.intro ?_ ?_; rotate_left; conv => whnf) | (refine .inl (And.intro ?_ ?_); rotate_left; conv => whnf))
  refine ⟨(d.cache, d), ?_⟩
  conv => whnf
  repeat (first | (refine And.intro ?_ ?_; rotate_left; conv => whnf) | (refine .inl (And.intro ?_ ?_); rotate_left; conv => whnf))
  intro hr
  conv => whnf
  repeat (first | (refine And.intro ?_ ?_; rotate_left; conv => whnf) | (refine .inl (And.intro ?_ ?_); rotate_left; conv => whnf))
  refine ⟨fun h4 => ?_, fun h4 => ?_⟩
  · have e := check_no hg (d := d) (by simp [devOk, show anyI (wP (d.cache, d)) d.cache.length = true from h4])
    conv => whnf
    repeat (first | (refine And.intro ?_ ?_; rotate_left; conv => whnf) | (refine .inl (And.intro ?_ ?_); rotate_left; conv => whnf))
    all_goals (try rw [e])
    all_goals try (first | with_reducible rfl | with_reducible exact NC.Eqv.refl _ | exact NC.Eqv.refl _ | exact trivial | with_reducible exact (fun _ _ _ _ => NC.Eqv.refl _) | exact (fun _ _ _ _ => NC.Eqv.refl _) | (refine Ob.mk ?_; first | with_reducible rfl | omega | (dsimp only; omega) | rfl | exact trivial | (refine i64_of ?_ ?_ <;> omega) | (simp only [tB, Nat.zero_add, Int.toNat_natCast, true_and, and_true]; done) | (simp only [tB, Nat.zero_add, Int.toNat_natCast, true_and, and_true]; omega) | (intro _; first | omega | exact trivial | (refine i64_of ?_ ?_ <;> omega)) | exact ⟨rfl, fun _ _ => trivial⟩ | exact (fun _ => ⟨rfl, fun _ _ => trivial⟩) | ((repeat' (apply And.intro)) <;> first | rfl | exact trivial | (simp only [tB, Nat.zero_add, Int.toNat_natCast, true_and, and_true]; omega) | omega)) | omega | ((repeat' (apply And.intro)) <;> first | rfl | exact trivial | (simp only [tB, Nat.zero_add, Int.toNat_natCast, true_and, and_true]; omega) | omega | exact .inl rfl) | ((conv => whnf); (repeat' (apply And.intro)) <;> first | rfl | exact Ob.mk rfl | exact Ob.mk trivial))
  conv => whnf
  repeat (first | (refine And.intro ?_ ?_; rotate_left; conv => whnf) | (refine .inl (And.intro ?_ ?_); rotate_left; conv => whnf))
  refine ⟨(d.vols, g), ?_⟩
  conv => whnf
  repeat (first | (refine And.intro ?_ ?_; rotate_left; conv => whnf) | (refine .inl (And.intro ?_ ?_); rotate_left; conv => whnf))
  intro hr
  conv => whnf
  repeat (first | (refine And.intro ?_ ?_; rotate_left; conv => whnf) | (refine .inl (And.intro ?_ ?_); rotate_left; conv => whnf))
  refine ⟨fun h5 => ?_, fun h5 => ?_⟩
  · have e := check_no hg (d := d) (by simp [devOk, show anyI (vP (d.vols, g)) d.vols.length = true from h5])
    conv => whnf
    repeat (first | (refine And.intro ?_ ?_; rotate_left; conv => whnf) | (refine .inl (And.intro ?_ ?_); rotate_left; conv => whnf))
    all_goals (try rw [e])
    all_goals try (first | with_reducible rfl | with_reducible exact NC.Eqv.refl _ | exact NC.Eqv.refl _ | exact trivial | with_reducible exact (fun _ _ _ _ => NC.Eqv.refl _) | exact (fun _ _ _ _ => NC.Eqv.refl _) | (refine Ob.mk ?_; first | with_reducible rfl | omega | (dsimp only; omega) | rfl | exact trivial | (refine i64_of ?_ ?_ <;> omega) | (simp only [tB, Nat.zero_add, Int.toNat_natCast, true_and, and_true]; done) | (simp only [tB, Nat.zero_add, Int.toNat_natCast, true_and, and_true]; omega) | (intro _; first | omega | exact trivial | (refine i64_of ?_ ?_ <;> omega)) | exact ⟨rfl, fun _ _ => trivial⟩ | exact (fun _ => ⟨rfl, fun _ _ => trivial⟩) | ((repeat' (apply And.intro)) <;> first | rfl | exact trivial | (simp only [tB, Nat.zero_add, Int.toNat_natCast, true_and, and_true]; omega) | omega)) | omega | ((repeat' (apply And.intro)) <;> first | rfl | exact trivial | (simp only [tB, Nat.zero_add, Int.toNat_natCast, true_and, and_true]; omega) | omega | exact .inl rfl) | ((conv => whnf); (repeat' (apply And.intro)) <;> first | rfl | exact Ob.mk rfl | exact Ob.mk trivial))
  have : devOk g d = true := by simp [devOk, hs, show anyI (secP d.safe) d.safe.length = false from h3, show anyI (wP (d.cache, d)) d.cache.length = false from h4, show anyI (vP (d.vols, g)) d.vols.length = false from h5]
  have e := check_yes hg this
  conv => whnf
  repeat (first | (refine And.intro ?_ ?_; rotate_left; conv => whnf) | (refine .inl (And.intro ?_ ?_); rotate_left; conv => whnf))
  all_goals (try rw [e])
  all_goals try (first | with_reducible rfl | with_reducible exact NC.Eqv.refl _ | exact NC.Eqv.refl _ | exact trivial | with_reducible exact (fun _ _ _ _ => NC.Eqv.refl _) | exact (fun _ _ _ _ => NC.Eqv.refl _) | (refine Ob.mk ?_; first | with_reducible rfl | omega | (dsimp only; omega) | rfl | exact trivial | (refine i64_of ?_ ?_ <;> omega) | (simp only [tB, Nat.zero_add, Int.toNat_natCast, true_and, and_true]; done) | (simp only [tB, Nat.zero_add, Int.toNat_natCast, true_and, and_true]; omega) | (intro _; first | omega | exact trivial | (refine i64_of ?_ ?_ <;> omega)) | exact ⟨rfl, fun _ _ => trivial⟩ | exact (fun _ => ⟨rfl, fun _ _ => trivial⟩) | ((repeat' (apply And.intro)) <;> first | rfl | exact trivial | (simp only [tB, Nat.zero_add, Int.toNat_natCast, true_and, and_true]; omega) | omega)) | omega | ((repeat' (apply And.intro)) <;> first | rfl | exact trivial | (simp only [tB, Nat.zero_add, Int.toNat_natCast, true_and, and_true]; omega) | omega | exact .inl rfl) | ((conv => whnf); (repeat' (apply And.intro)) <;> first | rfl | exact Ob.mk rfl | exact Ob.mk trivial))
  exact ⟨hg⟩
end Go.Ice.S1
end

section
set_option linter.unusedVariables false
set_option linter.unusedSimpArgs false
set_option maxRecDepth 20000
namespace Go.Ice.S1
open Go.Proofs
theorem fnOk89 : FnOk Try.prog 89 := ⟨Try.f89, rfl, by decide, rfl⟩
theorem fnOk90 : FnOk Try.prog 90 := ⟨Try.f90, rfl, by decide, rfl⟩
def L9 : List (Nat × FSpec) := (89, S89) :: (90, SSec) :: L8
theorem Γ9 : ΓOk Try.prog (lkG L9) := ((Γ8).cons fnOk90 ok90).cons fnOk89 ok89
theorem anyI_hit {p : Nat → Bool} {n i : Nat} (hi : i < n) (h : p i = true) : anyI p n = true := List.any_eq_true.2 ⟨i, by simpa using hi, h⟩
theorem anyI_no {p : Nat → Bool} {n : Nat} (h : ∀ k, k < n → p k = false) : anyI p n = false := List.any_eq_false.2 fun x hx => by simp [h x (by simpa using hx)]
theorem shape_r (a : Bool) (c v vs f : Int) : (bif bif bif !a then true else decide (2000 < c) then true else decide (vs < v) then true else !(In f (-1) 1048576)) =
    !(a && decide (c ≤ 2000) && decide (v ≤ vs) && In f (-1) 1048576) := by
  rw [not_le_b 2000 c, not_le_b vs v]
  cases a <;> cases decide (c ≤ 2000) <;> cases decide (v ≤ vs) <;> cases In f (-1) 1048576 <;> rfl
theorem wBad_r (p n : Int) (b : Bool) : (bif !(In p 0 (n - 1)) then true else !b) = (bif bif decide (p < 0) then true else decide (n ≤ p) then true else !b) := by
  have h1 : decide (n ≤ p) = !(decide (p ≤ n - 1)) := by
    by_cases h : n ≤ p
    · simp [h]; omega
    · simp [h]; omega
  rw [not_le_b p 0, h1]
  simp only [In]
  cases decide (0 ≤ p) <;> cases decide (p ≤ n - 1) <;> cases b <;> rfl
theorem vBad_r (x y s n : Int) (q : Bool) : (bif bif decide (x < y) then true else !(In s 0 n) then true else q) = (bif bif bif decide (x < y) then true else decide (s < 0) then true else decide (n < s) then true else q) := by
  rw [not_le_b s 0, not_le_b n s]
  simp only [In]
  cases decide (x < y) <;> cases decide (0 ≤ s) <;> cases decide (s ≤ n) <;> cases q <;> rfl
theorem ok27 : S24.Ok Try.prog 27 := by
  refine FSpec.okN [] (fn := Try.f27) (c := Try.f27.body.getD .skip) TOk_T mixed Γ9 rfl rfl (fun d => rfl) ?_
  rintro ⟨g, d⟩ hp hf hh
  have hf1 : d.safe.length ≤ 140737488355328 := hf.2.1.1.1
  have hf2 : d.cache.length ≤ 140737488355328 := hf.2.1.2.1.1
  have hf3 : d.vols.length ≤ 140737488355328 := hf.2.1.2.2.1.1
  conv => whnf
  repeat (first | (refine And.intro ?_ ?_; rotate_left; conv => whnf) | (refine .inl (And.intro ?_ ?_); rotate_left; conv => whnf))
  refine ⟨g, ?_⟩
  conv => whnf
  repeat (first | (refine And.intro ?_ ?_; rotate_left; conv => whnf) | (refine .inl (And.intro ?_ ?_); rotate_left; conv => whnf))
  intro hr
  conv => whnf
  repeat (first | (refine And.intro ?_ ?_; rotate_left; conv => whnf) | (refine .inl (And.intro ?_ ?_); rotate_left; conv => whnf))
  refine ⟨fun h => ?_, fun h => ?_⟩
  · have e := check_geo (d := d) (geo_dec h)
    conv => whnf
    repeat (first | (refine And.intro ?_ ?_; rotate_left; conv => whnf) | (refine .inl (And.intro ?_ ?_); rotate_left; conv => whnf))
    all_goals (try rw [e])
    all_goals try (first | with_reducible rfl | with_reducible exact NC.Eqv.refl _ | exact NC.Eqv.refl _ | exact trivial | with_reducible exact (fun _ _ _ _ => NC.Eqv.refl _) | exact (fun _ _ _ _ => NC.Eqv.refl _) | (refine Ob.mk ?_; first | with_reducible rfl | omega | (dsimp only; omega) | rfl | exact trivial | (refine i64_of ?_ ?_ <;> omega) | (simp only [tB, Nat.zero_add, Int.toNat_natCast, true_and, and_true]; done) | (simp only [tB, Nat.zero_add, Int.toNat_natCast, true_and, and_true]; omega) | (intro _; first | omega | exact trivial | (refine i64_of ?_ ?_ <;> omega)) | exact ⟨rfl, fun _ _ => trivial⟩ | exact (fun _ => ⟨rfl, fun _ _ => trivial⟩) | ((repeat' (apply And.intro)) <;> first | rfl | exact trivial | (simp only [tB, Nat.zero_add, Int.toNat_natCast, true_and, and_true]; omega) | omega)) | omega | ((repeat' (apply And.intro)) <;> first | rfl | exact trivial | (simp only [tB, Nat.zero_add, Int.toNat_natCast, true_and, and_true]; omega) | omega | exact .inl rfl) | ((conv => whnf); (repeat' (apply And.intro)) <;> first | rfl | exact Ob.mk rfl | exact Ob.mk trivial))
  have hg := geo_dec' h
  conv => whnf
  repeat (first | (refine And.intro ?_ ?_; rotate_left; conv => whnf) | (refine .inl (And.intro ?_ ?_); rotate_left; conv => whnf))
  refine ⟨g, ?_⟩
  conv => whnf
  repeat (first | (refine And.intro ?_ ?_; rotate_left; conv => whnf) | (refine .inl (And.intro ?_ ?_); rotate_left; conv => whnf))
  intro hr
  conv => whnf
  repeat (first | (refine And.intro ?_ ?_; rotate_left; conv => whnf) | (refine .inl (And.intro ?_ ?_); rotate_left; conv => whnf))
  refine ⟨(d.fuel, -1, 1048576), ?_⟩
  conv => whnf
  repeat (first | (refine And.intro ?_ ?_; rotate_left; conv => whnf) | (refine .inl (And.intro ?_ ?_); rotate_left; conv => whnf))
  intro hr
  conv => whnf
  repeat (first | (refine And.intro ?_ ?_; rotate_left; conv => whnf) | (refine .inl (And.intro ?_ ?_); rotate_left; conv => whnf))
  refine ⟨fun h2 => ?_, fun h2 => ?_⟩
  · have h2 := (shape_r _ _ _ _ _).symm.trans h2
    have hs : shape g d = false := by unfold shape; simpa only [Bool.not_eq_true'] using h2
    have e := check_no hg (d := d) (by simp [devOk, hs])
    conv => whnf
    repeat (first | (refine And.intro ?_ ?_; rotate_left; conv => whnf) | (refine .inl (And.intro ?_ ?_); rotate_left; conv => whnf))
    all_goals (try rw [e])
    all_goals try (first | with_reducible rfl | with_reducible exact NC.Eqv.refl _ | exact NC.Eqv.refl _ | exact trivial | with_reducible exact (fun _ _ _ _ => NC.Eqv.refl _) | exact (fun _ _ _ _ => NC.Eqv.refl _) | (refine Ob.mk ?_; first | with_reducible rfl | omega | (dsimp only; omega) | rfl | exact trivial | (refine i64_of ?_ ?_ <;> omega) | (simp only [tB, Nat.zero_add, Int.toNat_natCast, true_and, and_true]; done) | (simp only [tB, Nat.zero_add, Int.toNat_natCast, true_and, and_true]; omega) | (intro _; first | omega | exact trivial | (refine i64_of ?_ ?_ <;> omega)) | exact ⟨rfl, fun _ _ => trivial⟩ | exact (fun _ => ⟨rfl, fun _ _ => trivial⟩) | ((repeat' (apply And.intro)) <;> first | rfl | exact trivial | (simp only [tB, Nat.zero_add, Int.toNat_natCast, true_and, and_true]; omega) | omega)) | omega | ((repeat' (apply And.intro)) <;> first | rfl | exact trivial | (simp only [tB, Nat.zero_add, Int.toNat_natCast, true_and, and_true]; omega) | omega | exact .inl rfl) | ((conv => whnf); (repeat' (apply And.intro)) <;> first | rfl | exact Ob.mk rfl | exact Ob.mk trivial))
  have h2 := (shape_r _ _ _ _ _).symm.trans h2
  have hs : shape g d = true := by unfold shape; simpa only [Bool.not_eq_false'] using h2
  conv => whnf
  refine ⟨{ i : Nat // i ≤ d.safe.length ∧ ∀ k, k < i → secP d.safe k = false }, [2, 3], fun ⟨i, _⟩ => [(6, .int .i64 (i : Int))], fun _ => [], fun ⟨i, _⟩ => d.safe.length - i, ⟨⟨0, by omega, fun k h => absurd h (by omega)⟩, ?_⟩, ?_⟩
  · conv => whnf
    repeat (first | (refine And.intro ?_ ?_; rotate_left; conv => whnf) | (refine .inl (And.intro ?_ ?_); rotate_left; conv => whnf))
    all_goals try (first | with_reducible rfl | with_reducible exact NC.Eqv.refl _ | exact NC.Eqv.refl _ | exact trivial | with_reducible exact (fun _ _ _ _ => NC.Eqv.refl _) | exact (fun _ _ _ _ => NC.Eqv.refl _) | (refine Ob.mk ?_; first | with_reducible rfl | omega | (dsimp only; omega) | rfl | exact trivial | (refine i64_of ?_ ?_ <;> omega) | (simp only [tB, Nat.zero_add, Int.toNat_natCast, true_and, and_true]; done) | (simp only [tB, Nat.zero_add, Int.toNat_natCast, true_and, and_true]; omega) | (intro _; first | omega | exact trivial | (refine i64_of ?_ ?_ <;> omega)) | exact ⟨rfl, fun _ _ => trivial⟩ | exact (fun _ => ⟨rfl, fun _ _ => trivial⟩) | ((repeat' (apply And.intro)) <;> first | rfl | exact trivial | (simp only [tB, Nat.zero_add, Int.toNat_natCast, true_and, and_true]; omega) | omega)) | omega | ((repeat' (apply And.intro)) <;> first | rfl | exact trivial | (simp only [tB, Nat.zero_add, Int.toNat_natCast, true_and, and_true]; omega) | omega | exact .inl rfl) | ((conv => whnf); (repeat' (apply And.intro)) <;> first | rfl | exact Ob.mk rfl | exact Ob.mk trivial))
  rintro ⟨i, hi, hrow⟩
  conv => whnf
  refine ⟨fun h => ?_, fun h => ?_⟩
  · have h : (i : Int) < d.safe.length := of_decide_eq_true h
    conv => whnf
    repeat (first | (refine And.intro ?_ ?_; rotate_left; conv => whnf) | (refine .inl (And.intro ?_ ?_); rotate_left; conv => whnf))

    refine ⟨fun h3 => ?_, fun h3 => ?_⟩
    · have h3 : secP d.safe i = true := h3
      have e := check_no hg (d := d) (by simp [devOk, anyI_hit (n := d.safe.length) (by omega) h3])
      conv => whnf
      repeat (first | (refine And.intro ?_ ?_; rotate_left; conv => whnf) | (refine .inl (And.intro ?_ ?_); rotate_left; conv => whnf))
      all_goals (try rw [e])
      all_goals try (first | with_reducible rfl | with_reducible exact NC.Eqv.refl _ | exact NC.Eqv.refl _ | exact trivial | with_reducible exact (fun _ _ _ _ => NC.Eqv.refl _) | exact (fun _ _ _ _ => NC.Eqv.refl _) | (refine Ob.mk ?_; first | with_reducible rfl | omega | (dsimp only; omega) | rfl | exact trivial | (refine i64_of ?_ ?_ <;> omega) | (simp only [tB, Nat.zero_add, Int.toNat_natCast, true_and, and_true]; done) | (simp only [tB, Nat.zero_add, Int.toNat_natCast, true_and, and_true]; omega) | (intro _; first | omega | exact trivial | (refine i64_of ?_ ?_ <;> omega)) | exact ⟨rfl, fun _ _ => trivial⟩ | exact (fun _ => ⟨rfl, fun _ _ => trivial⟩) | ((repeat' (apply And.intro)) <;> first | rfl | exact trivial | (simp only [tB, Nat.zero_add, Int.toNat_natCast, true_and, and_true]; omega) | omega)) | omega | ((repeat' (apply And.intro)) <;> first | rfl | exact trivial | (simp only [tB, Nat.zero_add, Int.toNat_natCast, true_and, and_true]; omega) | omega | exact .inl rfl) | ((conv => whnf); (repeat' (apply And.intro)) <;> first | rfl | exact Ob.mk rfl | exact Ob.mk trivial))
    · have h3 : secP d.safe i = false := h3
      conv => whnf
      repeat (first | (refine And.intro ?_ ?_; rotate_left; conv => whnf) | (refine .inl (And.intro ?_ ?_); rotate_left; conv => whnf))
      refine ⟨⟨i + 1, by omega, fun k hk => ?_⟩, ?_⟩
      · by_cases e : k = i
        · rw [e]; exact h3
        · exact hrow k (by omega)
      conv => whnf
      repeat (first | (refine And.intro ?_ ?_; rotate_left; conv => whnf) | (refine .inl (And.intro ?_ ?_); rotate_left; conv => whnf))
      all_goals try (first | with_reducible rfl | with_reducible exact NC.Eqv.refl _ | exact NC.Eqv.refl _ | exact trivial | with_reducible exact (fun _ _ _ _ => NC.Eqv.refl _) | exact (fun _ _ _ _ => NC.Eqv.refl _) | (refine Ob.mk ?_; first | with_reducible rfl | omega | (dsimp only; omega) | rfl | exact trivial | (refine i64_of ?_ ?_ <;> omega) | (simp only [tB, Nat.zero_add, Int.toNat_natCast, true_and, and_true]; done) | (simp only [tB, Nat.zero_add, Int.toNat_natCast, true_and, and_true]; omega) | (intro _; first | omega | exact trivial | (refine i64_of ?_ ?_ <;> omega)) | exact ⟨rfl, fun _ _ => trivial⟩ | exact (fun _ => ⟨rfl, fun _ _ => trivial⟩) | ((repeat' (apply And.intro)) <;> first | rfl | exact trivial | (simp only [tB, Nat.zero_add, Int.toNat_natCast, true_and, and_true]; omega) | omega)) | omega | ((repeat' (apply And.intro)) <;> first | rfl | exact trivial | (simp only [tB, Nat.zero_add, Int.toNat_natCast, true_and, and_true]; omega) | omega | exact .inl rfl) | ((conv => whnf); (repeat' (apply And.intro)) <;> first | rfl | exact Ob.mk rfl | exact Ob.mk trivial))
    all_goals try (first | with_reducible rfl | with_reducible exact NC.Eqv.refl _ | exact NC.Eqv.refl _ | exact trivial | with_reducible exact (fun _ _ _ _ => NC.Eqv.refl _) | exact (fun _ _ _ _ => NC.Eqv.refl _) | (refine Ob.mk ?_; first | with_reducible rfl | omega | (dsimp only; omega) | rfl | exact trivial | (refine i64_of ?_ ?_ <;> omega) | (simp only [tB, Nat.zero_add, Int.toNat_natCast, true_and, and_true]; done) | (simp only [tB, Nat.zero_add, Int.toNat_natCast, true_and, and_true]; omega) | (intro _; first | omega | exact trivial | (refine i64_of ?_ ?_ <;> omega)) | exact ⟨rfl, fun _ _ => trivial⟩ | exact (fun _ => ⟨rfl, fun _ _ => trivial⟩) | ((repeat' (apply And.intro)) <;> first | rfl | exact trivial | (simp only [tB, Nat.zero_add, Int.toNat_natCast, true_and, and_true]; omega) | omega)) | omega | ((repeat' (apply And.intro)) <;> first | rfl | exact trivial | (simp only [tB, Nat.zero_add, Int.toNat_natCast, true_and, and_true]; omega) | omega | exact .inl rfl) | ((conv => whnf); (repeat' (apply And.intro)) <;> first | rfl | exact Ob.mk rfl | exact Ob.mk trivial))
  have h : ¬ (i : Int) < d.safe.length := of_decide_eq_false h
  have hall_safe := anyI_no (fun k hk => hrow k (by omega : k < i))
  have e : i = d.safe.length := by omega
  rw [e] at hall_safe
  conv => whnf
  refine ⟨{ i : Nat // i ≤ d.cache.length ∧ ∀ k, k < i → wP (d.cache, d) k = false }, [2, 3], fun ⟨i, _⟩ => [(7, .int .i64 (i : Int))], fun _ => [], fun ⟨i, _⟩ => d.cache.length - i, ⟨⟨0, by omega, fun k h => absurd h (by omega)⟩, ?_⟩, ?_⟩
  · conv => whnf
    repeat (first | (refine And.intro ?_ ?_; rotate_left; conv => whnf) | (refine .inl (And.intro ?_ ?_); rotate_left; conv => whnf))
    all_goals try (first | with_reducible rfl | with_reducible exact NC.Eqv.refl _ | exact NC.Eqv.refl _ | exact trivial | with_reducible exact (fun _ _ _ _ => NC.Eqv.refl _) | exact (fun _ _ _ _ => NC.Eqv.refl _) | (refine Ob.mk ?_; first | with_reducible rfl | omega | (dsimp only; omega) | rfl | exact trivial | (refine i64_of ?_ ?_ <;> omega) | (simp only [tB, Nat.zero_add, Int.toNat_natCast, true_and, and_true]; done) | (simp only [tB, Nat.zero_add, Int.toNat_natCast, true_and, and_true]; omega) | (intro _; first | omega | exact trivial | (refine i64_of ?_ ?_ <;> omega)) | exact ⟨rfl, fun _ _ => trivial⟩ | exact (fun _ => ⟨rfl, fun _ _ => trivial⟩) | ((repeat' (apply And.intro)) <;> first | rfl | exact trivial | (simp only [tB, Nat.zero_add, Int.toNat_natCast, true_and, and_true]; omega) | omega)) | omega | ((repeat' (apply And.intro)) <;> first | rfl | exact trivial | (simp only [tB, Nat.zero_add, Int.toNat_natCast, true_and, and_true]; omega) | omega | exact .inl rfl) | ((conv => whnf); (repeat' (apply And.intro)) <;> first | rfl | exact Ob.mk rfl | exact Ob.mk trivial))
  rintro ⟨i, hi, hrow⟩
  conv => whnf
  refine ⟨fun h => ?_, fun h => ?_⟩
  · have h : (i : Int) < d.cache.length := of_decide_eq_true h
    conv => whnf
    repeat (first | (refine And.intro ?_ ?_; rotate_left; conv => whnf) | (refine .inl (And.intro ?_ ?_); rotate_left; conv => whnf))
    refine ⟨((d.cache.getD i default).pos, 0, (d.safe.length : Int) - 1), ?_⟩
    conv => whnf
    repeat (first | (refine And.intro ?_ ?_; rotate_left; conv => whnf) | (refine .inl (And.intro ?_ ?_); rotate_left; conv => whnf))
    intro hr
    conv => whnf
    repeat (first | (refine And.intro ?_ ?_; rotate_left; conv => whnf) | (refine .inl (And.intro ?_ ?_); rotate_left; conv => whnf))
    refine ⟨fun h3 => ?_, fun h3 => ?_⟩
    · have h3 : wP (d.cache, d) i = true := ((wBad_r _ _ _).symm.trans h3)
      have e := check_no hg (d := d) (by simp [devOk, anyI_hit (n := d.cache.length) (by omega) h3])
      conv => whnf
      repeat (first | (refine And.intro ?_ ?_; rotate_left; conv => whnf) | (refine .inl (And.intro ?_ ?_); rotate_left; conv => whnf))
      all_goals (try rw [e])
      all_goals try (first | with_reducible rfl | with_reducible exact NC.Eqv.refl _ | exact NC.Eqv.refl _ | exact trivial | with_reducible exact (fun _ _ _ _ => NC.Eqv.refl _) | exact (fun _ _ _ _ => NC.Eqv.refl _) | (refine Ob.mk ?_; first | with_reducible rfl | omega | (dsimp only; omega) | rfl | exact trivial | (refine i64_of ?_ ?_ <;> omega) | (simp only [tB, Nat.zero_add, Int.toNat_natCast, true_and, and_true]; done) | (simp only [tB, Nat.zero_add, Int.toNat_natCast, true_and, and_true]; omega) | (intro _; first | omega | exact trivial | (refine i64_of ?_ ?_ <;> omega)) | exact ⟨rfl, fun _ _ => trivial⟩ | exact (fun _ => ⟨rfl, fun _ _ => trivial⟩) | ((repeat' (apply And.intro)) <;> first | rfl | exact trivial | (simp only [tB, Nat.zero_add, Int.toNat_natCast, true_and, and_true]; omega) | omega)) | omega | ((repeat' (apply And.intro)) <;> first | rfl | exact trivial | (simp only [tB, Nat.zero_add, Int.toNat_natCast, true_and, and_true]; omega) | omega | exact .inl rfl) | ((conv => whnf); (repeat' (apply And.intro)) <;> first | rfl | exact Ob.mk rfl | exact Ob.mk trivial))
    · have h3 : wP (d.cache, d) i = false := ((wBad_r _ _ _).symm.trans h3)
      conv => whnf
      repeat (first | (refine And.intro ?_ ?_; rotate_left; conv => whnf) | (refine .inl (And.intro ?_ ?_); rotate_left; conv => whnf))
      refine ⟨⟨i + 1, by omega, fun k hk => ?_⟩, ?_⟩
      · by_cases e : k = i
        · rw [e]; exact h3
        · exact hrow k (by omega)
      conv => whnf
      repeat (first | (refine And.intro ?_ ?_; rotate_left; conv => whnf) | (refine .inl (And.intro ?_ ?_); rotate_left; conv => whnf))
      all_goals try (first | with_reducible rfl | with_reducible exact NC.Eqv.refl _ | exact NC.Eqv.refl _ | exact trivial | with_reducible exact (fun _ _ _ _ => NC.Eqv.refl _) | exact (fun _ _ _ _ => NC.Eqv.refl _) | (refine Ob.mk ?_; first | with_reducible rfl | omega | (dsimp only; omega) | rfl | exact trivial | (refine i64_of ?_ ?_ <;> omega) | (simp only [tB, Nat.zero_add, Int.toNat_natCast, true_and, and_true]; done) | (simp only [tB, Nat.zero_add, Int.toNat_natCast, true_and, and_true]; omega) | (intro _; first | omega | exact trivial | (refine i64_of ?_ ?_ <;> omega)) | exact ⟨rfl, fun _ _ => trivial⟩ | exact (fun _ => ⟨rfl, fun _ _ => trivial⟩) | ((repeat' (apply And.intro)) <;> first | rfl | exact trivial | (simp only [tB, Nat.zero_add, Int.toNat_natCast, true_and, and_true]; omega) | omega)) | omega | ((repeat' (apply And.intro)) <;> first | rfl | exact trivial | (simp only [tB, Nat.zero_add, Int.toNat_natCast, true_and, and_true]; omega) | omega | exact .inl rfl) | ((conv => whnf); (repeat' (apply And.intro)) <;> first | rfl | exact Ob.mk rfl | exact Ob.mk trivial))
    all_goals try (first | with_reducible rfl | with_reducible exact NC.Eqv.refl _ | exact NC.Eqv.refl _ | exact trivial | with_reducible exact (fun _ _ _ _ => NC.Eqv.refl _) | exact (fun _ _ _ _ => NC.Eqv.refl _) | (refine Ob.mk ?_; first | with_reducible rfl | omega | (dsimp only; omega) | rfl | exact trivial | (refine i64_of ?_ ?_ <;> omega) | (simp only [tB, Nat.zero_add, Int.toNat_natCast, true_and, and_true]; done) | (simp only [tB, Nat.zero_add, Int.toNat_natCast, true_and, and_true]; omega) | (intro _; first | omega | exact trivial | (refine i64_of ?_ ?_ <;> omega)) | exact ⟨rfl, fun _ _ => trivial⟩ | exact (fun _ => ⟨rfl, fun _ _ => trivial⟩) | ((repeat' (apply And.intro)) <;> first | rfl | exact trivial | (simp only [tB, Nat.zero_add, Int.toNat_natCast, true_and, and_true]; omega) | omega)) | omega | ((repeat' (apply And.intro)) <;> first | rfl | exact trivial | (simp only [tB, Nat.zero_add, Int.toNat_natCast, true_and, and_true]; omega) | omega | exact .inl rfl) | ((conv => whnf); (repeat' (apply And.intro)) <;> first | rfl | exact Ob.mk rfl | exact Ob.mk trivial))
  have h : ¬ (i : Int) < d.cache.length := of_decide_eq_false h
  have hall_cache := anyI_no (fun k hk => hrow k (by omega : k < i))
  have e : i = d.cache.length := by omega
  rw [e] at hall_cache
  conv => whnf
  refine ⟨{ i : Nat // i ≤ d.vols.length ∧ ∀ k, k < i → vP (d.vols, g) k = false }, [2, 3], fun ⟨i, _⟩ => [(8, .int .i64 (i : Int))], fun _ => [], fun ⟨i, _⟩ => d.vols.length - i, ⟨⟨0, by omega, fun k h => absurd h (by omega)⟩, ?_⟩, ?_⟩
  · conv => whnf
    repeat (first | (refine And.intro ?_ ?_; rotate_left; conv => whnf) | (refine .inl (And.intro ?_ ?_); rotate_left; conv => whnf))
    all_goals try (first | with_reducible rfl | with_reducible exact NC.Eqv.refl _ | exact NC.Eqv.refl _ | exact trivial | with_reducible exact (fun _ _ _ _ => NC.Eqv.refl _) | exact (fun _ _ _ _ => NC.Eqv.refl _) | (refine Ob.mk ?_; first | with_reducible rfl | omega | (dsimp only; omega) | rfl | exact trivial | (refine i64_of ?_ ?_ <;> omega) | (simp only [tB, Nat.zero_add, Int.toNat_natCast, true_and, and_true]; done) | (simp only [tB, Nat.zero_add, Int.toNat_natCast, true_and, and_true]; omega) | (intro _; first | omega | exact trivial | (refine i64_of ?_ ?_ <;> omega)) | exact ⟨rfl, fun _ _ => trivial⟩ | exact (fun _ => ⟨rfl, fun _ _ => trivial⟩) | ((repeat' (apply And.intro)) <;> first | rfl | exact trivial | (simp only [tB, Nat.zero_add, Int.toNat_natCast, true_and, and_true]; omega) | omega)) | omega | ((repeat' (apply And.intro)) <;> first | rfl | exact trivial | (simp only [tB, Nat.zero_add, Int.toNat_natCast, true_and, and_true]; omega) | omega | exact .inl rfl) | ((conv => whnf); (repeat' (apply And.intro)) <;> first | rfl | exact Ob.mk rfl | exact Ob.mk trivial))
  rintro ⟨i, hi, hrow⟩
  conv => whnf
  refine ⟨fun h => ?_, fun h => ?_⟩
  · have h : (i : Int) < d.vols.length := of_decide_eq_true h
    conv => whnf
    repeat (first | (refine And.intro ?_ ?_; rotate_left; conv => whnf) | (refine .inl (And.intro ?_ ?_); rotate_left; conv => whnf))
    refine ⟨((d.vols.getD i default).synced, 0, ((d.vols.getD i default).data.length : Int)), ?_⟩
    conv => whnf
    repeat (first | (refine And.intro ?_ ?_; rotate_left; conv => whnf) | (refine .inl (And.intro ?_ ?_); rotate_left; conv => whnf))
    intro hr
    conv => whnf
    repeat (first | (refine And.intro ?_ ?_; rotate_left; conv => whnf) | (refine .inl (And.intro ?_ ?_); rotate_left; conv => whnf))
    refine ⟨fun h3 => ?_, fun h3 => ?_⟩
    · have h3 : vP (d.vols, g) i = true := (vBad_r _ _ _ _ _).symm.trans h3
      have e := check_no hg (d := d) (by simp [devOk, anyI_hit (n := d.vols.length) (by omega) h3])
      conv => whnf
      repeat (first | (refine And.intro ?_ ?_; rotate_left; conv => whnf) | (refine .inl (And.intro ?_ ?_); rotate_left; conv => whnf))
      all_goals (try rw [e])
      all_goals try (first | with_reducible rfl | with_reducible exact NC.Eqv.refl _ | exact NC.Eqv.refl _ | exact trivial | with_reducible exact (fun _ _ _ _ => NC.Eqv.refl _) | exact (fun _ _ _ _ => NC.Eqv.refl _) | (refine Ob.mk ?_; first | with_reducible rfl | omega | (dsimp only; omega) | rfl | exact trivial | (refine i64_of ?_ ?_ <;> omega) | (simp only [tB, Nat.zero_add, Int.toNat_natCast, true_and, and_true]; done) | (simp only [tB, Nat.zero_add, Int.toNat_natCast, true_and, and_true]; omega) | (intro _; first | omega | exact trivial | (refine i64_of ?_ ?_ <;> omega)) | exact ⟨rfl, fun _ _ => trivial⟩ | exact (fun _ => ⟨rfl, fun _ _ => trivial⟩) | ((repeat' (apply And.intro)) <;> first | rfl | exact trivial | (simp only [tB, Nat.zero_add, Int.toNat_natCast, true_and, and_true]; omega) | omega)) | omega | ((repeat' (apply And.intro)) <;> first | rfl | exact trivial | (simp only [tB, Nat.zero_add, Int.toNat_natCast, true_and, and_true]; omega) | omega | exact .inl rfl) | ((conv => whnf); (repeat' (apply And.intro)) <;> first | rfl | exact Ob.mk rfl | exact Ob.mk trivial))
    · have h3 : vP (d.vols, g) i = false := (vBad_r _ _ _ _ _).symm.trans h3
      conv => whnf
      repeat (first | (refine And.intro ?_ ?_; rotate_left; conv => whnf) | (refine .inl (And.intro ?_ ?_); rotate_left; conv => whnf))
      refine ⟨⟨i + 1, by omega, fun k hk => ?_⟩, ?_⟩
      · by_cases e : k = i
        · rw [e]; exact h3
        · exact hrow k (by omega)
      conv => whnf
      repeat (first | (refine And.intro ?_ ?_; rotate_left; conv => whnf) | (refine .inl (And.intro ?_ ?_); rotate_left; conv => whnf))
      all_goals try (first | with_reducible rfl | with_reducible exact NC.Eqv.refl _ | exact NC.Eqv.refl _ | exact trivial | with_reducible exact (fun _ _ _ _ => NC.Eqv.refl _) | exact (fun _ _ _ _ => NC.Eqv.refl _) | (refine Ob.mk ?_; first | with_reducible rfl | omega | (dsimp only; omega) | rfl | exact trivial | (refine i64_of ?_ ?_ <;> omega) | (simp only [tB, Nat.zero_add, Int.toNat_natCast, true_and, and_true]; done) | (simp only [tB, Nat.zero_add, Int.toNat_natCast, true_and, and_true]; omega) | (intro _; first | omega | exact trivial | (refine i64_of ?_ ?_ <;> omega)) | exact ⟨rfl, fun _ _ => trivial⟩ | exact (fun _ => ⟨rfl, fun _ _ => trivial⟩) | ((repeat' (apply And.intro)) <;> first | rfl | exact trivial | (simp only [tB, Nat.zero_add, Int.toNat_natCast, true_and, and_true]; omega) | omega)) | omega | ((repeat' (apply And.intro)) <;> first | rfl | exact trivial | (simp only [tB, Nat.zero_add, Int.toNat_natCast, true_and, and_true]; omega) | omega | exact .inl rfl) | ((conv => whnf); (repeat' (apply And.intro)) <;> first | rfl | exact Ob.mk rfl | exact Ob.mk trivial))
    all_goals try (first | with_reducible rfl | with_reducible exact NC.Eqv.refl _ | exact NC.Eqv.refl _ | exact trivial | with_reducible exact (fun _ _ _ _ => NC.Eqv.refl _) | exact (fun _ _ _ _ => NC.Eqv.refl _) | (refine Ob.mk ?_; first | with_reducible rfl | omega | (dsimp only; omega) | rfl | exact trivial | (refine i64_of ?_ ?_ <;> omega) | (simp only [tB, Nat.zero_add, Int.toNat_natCast, true_and, and_true]; done) | (simp only [tB, Nat.zero_add, Int.toNat_natCast, true_and, and_true]; omega) | (intro _; first | omega | exact trivial | (refine i64_of ?_ ?_ <;> omega)) | exact ⟨rfl, fun _ _ => trivial⟩ | exact (fun _ => ⟨rfl, fun _ _ => trivial⟩) | ((repeat' (apply And.intro)) <;> first | rfl | exact trivial | (simp only [tB, Nat.zero_add, Int.toNat_natCast, true_and, and_true]; omega) | omega)) | omega | ((repeat' (apply And.intro)) <;> first | rfl | exact trivial | (simp only [tB, Nat.zero_add, Int.toNat_natCast, true_and, and_true]; omega) | omega | exact .inl rfl) | ((conv => whnf); (repeat' (apply And.intro)) <;> first | rfl | exact Ob.mk rfl | exact Ob.mk trivial))
  have h : ¬ (i : Int) < d.vols.length := of_decide_eq_false h
  have hall_vols := anyI_no (fun k hk => hrow k (by omega : k < i))
  have e : i = d.vols.length := by omega
  rw [e] at hall_vols
  have : devOk g d = true := by simp [devOk, hs, hall_safe, hall_cache, hall_vols]
  have e := check_yes hg this
  conv => whnf
  repeat (first | (refine And.intro ?_ ?_; rotate_left; conv => whnf) | (refine .inl (And.intro ?_ ?_); rotate_left; conv => whnf))
  all_goals (try rw [e])
  all_goals try (first | with_reducible rfl | with_reducible exact NC.Eqv.refl _ | exact NC.Eqv.refl _ | exact trivial | with_reducible exact (fun _ _ _ _ => NC.Eqv.refl _) | exact (fun _ _ _ _ => NC.Eqv.refl _) | (refine Ob.mk ?_; first | with_reducible rfl | omega | (dsimp only; omega) | rfl | exact trivial | (refine i64_of ?_ ?_ <;> omega) | (simp only [tB, Nat.zero_add, Int.toNat_natCast, true_and, and_true]; done) | (simp only [tB, Nat.zero_add, Int.toNat_natCast, true_and, and_true]; omega) | (intro _; first | omega | exact trivial | (refine i64_of ?_ ?_ <;> omega)) | exact ⟨rfl, fun _ _ => trivial⟩ | exact (fun _ => ⟨rfl, fun _ _ => trivial⟩) | ((repeat' (apply And.intro)) <;> first | rfl | exact trivial | (simp only [tB, Nat.zero_add, Int.toNat_natCast, true_and, and_true]; omega) | omega)) | omega | ((repeat' (apply And.intro)) <;> first | rfl | exact trivial | (simp only [tB, Nat.zero_add, Int.toNat_natCast, true_and, and_true]; omega) | omega | exact .inl rfl) | ((conv => whnf); (repeat' (apply And.intro)) <;> first | rfl | exact Ob.mk rfl | exact Ob.mk trivial))
  exact ⟨hg⟩
end Go.Ice.S1
end

section
set_option linter.unusedVariables false
set_option linter.unusedSimpArgs false
set_option maxRecDepth 20000
namespace Go.Ice.S1
open Go.Proofs
def volOk (d : Dev) (v : Int) : Bool := decide (0 ≤ v) && decide (v < d.vols.length) && !(d.vols.getD v.toNat default).gone
def S25 : FSpec where
  D := Dev × Int
  pre _ := True
  args := fun ⟨d, v⟩ => [.agg (devC d), .int .i64 v]
  hin _ := []
  res := fun ⟨d, v⟩ => .e (.bool (volOk d v))
  hout _ := []
  lend := true
  lends := fun _ d _ => ⟨trivial, fun i B h => by cases h⟩
theorem cond_and (a b : Bool) : (bif a then b else false) = (a && b) := by cases a <;> rfl
theorem ok25 : S25.Ok Try.prog 25 := by
  refine FSpec.okN [] (fn := Try.f25) (c := Try.f25.body.getD .skip) TOk_T mixed Γ9 rfl rfl (fun d => rfl) ?_
  rintro ⟨d, v⟩ hp hf hh
  conv => whnf
  repeat (first | (refine And.intro ?_ ?_; rotate_left; conv => whnf) | (refine .inl (And.intro ?_ ?_); rotate_left; conv => whnf))
  · exact trivial
  · refine ⟨fun hc => ?_⟩
    conv at hc => whnf
    have hc := (cond_and _ _).symm.trans hc
    simp only [Bool.and_eq_true, decide_eq_true_eq] at hc
    exact hc
  · refine boolEqv ?_
    simp only [cond_and]
    rfl
theorem ok28 : S25.Ok Try.prog 28 := by
  refine FSpec.okN [] (fn := Try.f28) (c := Try.f28.body.getD .skip) TOk_T mixed Γ9 rfl rfl (fun d => rfl) ?_
  rintro ⟨d, v⟩ hp hf hh
  have hf3 : d.vols.length ≤ 140737488355328 := hf.1.2.2.1.1
  conv => whnf
  repeat (first | (refine And.intro ?_ ?_; rotate_left; conv => whnf) | (refine .inl (And.intro ?_ ?_); rotate_left; conv => whnf))
  refine ⟨(v, 0, (d.vols.length : Int) - 1), ?_⟩
  conv => whnf
  repeat (first | (refine And.intro ?_ ?_; rotate_left; conv => whnf) | (refine .inl (And.intro ?_ ?_); rotate_left; conv => whnf))
  intro hr
  conv => whnf
  repeat (first | (refine And.intro ?_ ?_; rotate_left; conv => whnf) | (refine .inl (And.intro ?_ ?_); rotate_left; conv => whnf))
  all_goals try (first | with_reducible rfl | with_reducible exact NC.Eqv.refl _ | exact NC.Eqv.refl _ | exact trivial | with_reducible exact (fun _ _ _ _ => NC.Eqv.refl _) | exact (fun _ _ _ _ => NC.Eqv.refl _) | (refine Ob.mk ?_; first | with_reducible rfl | omega | (dsimp only; omega) | rfl | exact trivial | (refine i64_of ?_ ?_ <;> omega) | (simp only [tB, Nat.zero_add, Int.toNat_natCast, true_and, and_true]; done) | (simp only [tB, Nat.zero_add, Int.toNat_natCast, true_and, and_true]; omega) | (intro _; first | omega | exact trivial | (refine i64_of ?_ ?_ <;> omega)) | exact ⟨rfl, fun _ _ => trivial⟩ | exact (fun _ => ⟨rfl, fun _ _ => trivial⟩) | ((repeat' (apply And.intro)) <;> first | rfl | exact trivial | (simp only [tB, Nat.zero_add, Int.toNat_natCast, true_and, and_true]; omega) | omega)) | omega | ((repeat' (apply And.intro)) <;> first | rfl | exact trivial | (simp only [tB, Nat.zero_add, Int.toNat_natCast, true_and, and_true]; omega) | omega | exact .inl rfl) | ((conv => whnf); (repeat' (apply And.intro)) <;> first | rfl | exact Ob.mk rfl | exact Ob.mk trivial))
  · refine ⟨fun hc => ?_⟩
    conv at hc => whnf
    simp only [In, Bool.and_eq_true, decide_eq_true_eq] at hc
    omega
  · refine boolEqv ?_
    simp only [cond_and]
    show (In v 0 ((d.vols.length : Int) - 1) && !(d.vols.getD v.toNat default).gone) = volOk d v
    have : decide (v ≤ (d.vols.length : Int) - 1) = decide (v < (d.vols.length : Int)) := by
      by_cases h : v < (d.vols.length : Int)
      · simp [h]; omega
      · simp [h]; omega
    simp only [In, volOk, this]
end Go.Ice.S1
end

section
set_option linter.unusedVariables false
set_option linter.unusedSimpArgs false

set_option maxRecDepth 20000
namespace Go.Ice.S1
open Go.Proofs
def S30 : FSpec where
  D := List (List UInt8)
  pre _ := True
  args l := [.c (.nc (.f (lSl l))), .c (.nc (.f (lSl l)))]
  hin _ := []
  res _ := .e (.bool true)
  hout _ := []
  lend := true
  lends := fun _ d _ => ⟨trivial, fun i B h => by cases h⟩
theorem ok30 : S30.Ok Try.prog 30 := by
  refine FSpec.okN [] (fn := Try.f30) (c := Try.f30.body.getD .skip) TOk_T mixed Γ9 rfl rfl (fun d => rfl) ?_
  intro (l : List (List UInt8)) hp hf hh
  have hf1 : l.length ≤ 140737488355328 := hf.1.1
  conv => whnf
  repeat (first | (refine And.intro ?_ ?_; rotate_left; conv => whnf) | (refine .inl (And.intro ?_ ?_); rotate_left; conv => whnf))
  refine ⟨fun h => by simp at h, fun h => ?_⟩
  conv => whnf
  refine ⟨{ i : Nat // i ≤ l.length }, [0, 1], fun ⟨i, _⟩ => [(5, .int .i64 (i : Int))], fun _ => [], fun ⟨i, _⟩ => l.length - i, ⟨⟨0, by omega⟩, ?_⟩, ?_⟩
  · conv => whnf
    repeat (first | (refine And.intro ?_ ?_; rotate_left; conv => whnf) | (refine .inl (And.intro ?_ ?_); rotate_left; conv => whnf))
    all_goals try (first | with_reducible rfl | with_reducible exact NC.Eqv.refl _ | exact NC.Eqv.refl _ | exact trivial | with_reducible exact (fun _ _ _ _ => NC.Eqv.refl _) | exact (fun _ _ _ _ => NC.Eqv.refl _) | (refine Ob.mk ?_; first | with_reducible rfl | omega | (dsimp only; omega) | rfl | exact trivial | (refine i64_of ?_ ?_ <;> omega) | (simp only [tB, Nat.zero_add, Int.toNat_natCast, true_and, and_true]; done) | (simp only [tB, Nat.zero_add, Int.toNat_natCast, true_and, and_true]; omega) | (intro _; first | omega | exact trivial | (refine i64_of ?_ ?_ <;> omega)) | exact ⟨rfl, fun _ _ => trivial⟩ | exact (fun _ => ⟨rfl, fun _ _ => trivial⟩) | ((repeat' (apply And.intro)) <;> first | rfl | exact trivial | (simp only [tB, Nat.zero_add, Int.toNat_natCast, true_and, and_true]; omega) | omega)) | omega | ((repeat' (apply And.intro)) <;> first | rfl | exact trivial | (simp only [tB, Nat.zero_add, Int.toNat_natCast, true_and, and_true]; omega) | omega | exact .inl rfl) | ((conv => whnf); (repeat' (apply And.intro)) <;> first | rfl | exact Ob.mk rfl | exact Ob.mk trivial))
  rintro ⟨i, hi⟩
  conv => whnf
  refine ⟨fun h => ?_, fun h => ?_⟩
  · have h : (i : Int) < l.length := of_decide_eq_true h
    conv => whnf
    repeat (first | (refine And.intro ?_ ?_; rotate_left; conv => whnf) | (refine .inl (And.intro ?_ ?_); rotate_left; conv => whnf))
    refine ⟨fun h2 => by simp at h2, fun h2 => ?_⟩
    conv => whnf
    repeat (first | (refine And.intro ?_ ?_; rotate_left; conv => whnf) | (refine .inl (And.intro ?_ ?_); rotate_left; conv => whnf))
    refine ⟨⟨i + 1, by omega⟩, ?_⟩
    conv => whnf
    repeat (first | (refine And.intro ?_ ?_; rotate_left; conv => whnf) | (refine .inl (And.intro ?_ ?_); rotate_left; conv => whnf))
    all_goals try (first | with_reducible rfl | with_reducible exact NC.Eqv.refl _ | exact NC.Eqv.refl _ | exact trivial | with_reducible exact (fun _ _ _ _ => NC.Eqv.refl _) | exact (fun _ _ _ _ => NC.Eqv.refl _) | (refine Ob.mk ?_; first | with_reducible rfl | omega | (dsimp only; omega) | rfl | exact trivial | (refine i64_of ?_ ?_ <;> omega) | (simp only [tB, Nat.zero_add, Int.toNat_natCast, true_and, and_true]; done) | (simp only [tB, Nat.zero_add, Int.toNat_natCast, true_and, and_true]; omega) | (intro _; first | omega | exact trivial | (refine i64_of ?_ ?_ <;> omega)) | exact ⟨rfl, fun _ _ => trivial⟩ | exact (fun _ => ⟨rfl, fun _ _ => trivial⟩) | ((repeat' (apply And.intro)) <;> first | rfl | exact trivial | (simp only [tB, Nat.zero_add, Int.toNat_natCast, true_and, and_true]; omega) | omega)) | omega | ((repeat' (apply And.intro)) <;> first | rfl | exact trivial | (simp only [tB, Nat.zero_add, Int.toNat_natCast, true_and, and_true]; omega) | omega | exact .inl rfl) | ((conv => whnf); (repeat' (apply And.intro)) <;> first | rfl | exact Ob.mk rfl | exact Ob.mk trivial))

  have h : ¬ (i : Int) < l.length := of_decide_eq_false h
  conv => whnf
  repeat (first | (refine And.intro ?_ ?_; rotate_left; conv => whnf) | (refine .inl (And.intro ?_ ?_); rotate_left; conv => whnf))
  all_goals try (first | with_reducible rfl | with_reducible exact NC.Eqv.refl _ | exact NC.Eqv.refl _ | exact trivial | with_reducible exact (fun _ _ _ _ => NC.Eqv.refl _) | exact (fun _ _ _ _ => NC.Eqv.refl _) | (refine Ob.mk ?_; first | with_reducible rfl | omega | (dsimp only; omega) | rfl | exact trivial | (refine i64_of ?_ ?_ <;> omega) | (simp only [tB, Nat.zero_add, Int.toNat_natCast, true_and, and_true]; done) | (simp only [tB, Nat.zero_add, Int.toNat_natCast, true_and, and_true]; omega) | (intro _; first | omega | exact trivial | (refine i64_of ?_ ?_ <;> omega)) | exact ⟨rfl, fun _ _ => trivial⟩ | exact (fun _ => ⟨rfl, fun _ _ => trivial⟩) | ((repeat' (apply And.intro)) <;> first | rfl | exact trivial | (simp only [tB, Nat.zero_add, Int.toNat_natCast, true_and, and_true]; omega) | omega)) | omega | ((repeat' (apply And.intro)) <;> first | rfl | exact trivial | (simp only [tB, Nat.zero_add, Int.toNat_natCast, true_and, and_true]; omega) | omega | exact .inl rfl) | ((conv => whnf); (repeat' (apply And.intro)) <;> first | rfl | exact Ob.mk rfl | exact Ob.mk trivial))
end Go.Ice.S1
end
