/-
  Part of the proof of: The law DevAppends returns true at every input and leaves its arguments as they were. Conditions: those of the given row alone; no hypothesis is added.
-/
import Derived.Test.YtkfdhgfeidjaiaaIce1
import Derived.Deep.AppendSrc
section
set_option linter.unusedVariables false
set_option linter.unusedSimpArgs false
namespace Go.Ice
section
variable {P : Program} {T : Nat → TI} {σ : AS} {a : Act} {w : World} {β : Nat → Option Nat} {ω : Nat → Option (List Nat)}

theorem splice_get (arr : List Value) (new : List Value) (k m : Nat) (h : k + new.length ≤ arr.length) :
    (arr.take k ++ new ++ arr.drop (k + new.length))[m]? = if m < k then arr[m]? else if m < k + new.length then new[m - k]? else arr[m]? := by
  have hk : (arr.take k).length = k := by rw [List.length_take]; omega
  by_cases h1 : m < k
  · rw [if_pos h1, List.getElem?_append_left (by rw [List.length_append, hk]; omega), List.getElem?_append_left (by rw [hk]; exact h1), List.getElem?_take, if_pos h1]
  · rw [if_neg h1]
    by_cases h2 : m < k + new.length
    · rw [if_pos h2, List.getElem?_append_left (by rw [List.length_append, hk]; omega), List.getElem?_append_right (by rw [hk]; omega), hk]
    · rw [if_neg h2, List.getElem?_append_right (by rw [List.length_append, hk]; omega), List.length_append, hk, List.getElem?_drop]
      congr 1
      omega
theorem spliceC_get (arr : List Cell) (new : List Cell) (k m : Nat) (h : k + new.length ≤ arr.length) :
    (spliceL arr k new)[m]? = if m < k then arr[m]? else if m < k + new.length then new[m - k]? else arr[m]? := by
  unfold spliceL
  have hk : (arr.take k).length = k := by rw [List.length_take]; omega
  by_cases h1 : m < k
  · rw [if_pos h1, List.getElem?_append_left (by rw [List.length_append, hk]; omega), List.getElem?_append_left (by rw [hk]; exact h1), List.getElem?_take, if_pos h1]
  · rw [if_neg h1]
    by_cases h2 : m < k + new.length
    · rw [if_pos h2, List.getElem?_append_left (by rw [List.length_append, hk]; omega), List.getElem?_append_right (by rw [hk]; omega), hk]
    · rw [if_neg h2, List.getElem?_append_right (by rw [List.length_append, hk]; omega), List.length_append, hk, List.getElem?_drop]
      congr 1
      omega
theorem toNCs_spec : ∀ {cs : List Cell} {ncs : List NC}, toNCs cs = some ncs → ncs.length = cs.length ∧ ∀ (k : Nat) (x : NC), ncs[k]? = some x → ∃ c, cs[k]? = some c ∧ (c = .nc x ∨ (c = .nil ∧ x = .uq 1 1 0 (fun _ _ => .f .any)))
  | [], ncs, h => by
    simp only [toNCs, Option.some.injEq] at h
    subst h
    exact ⟨rfl, fun k x e => by simp at e⟩
  | c :: r, ncs, h => by
    unfold toNCs at h
    split at h
    · rename_i e; cases e
    · rename_i y r' e
      injection e with e1 e2
      subst e1 e2
      split at h
      · rename_i l hl
        injection h with h
        subst h
        obtain ⟨h1, h2⟩ := toNCs_spec hl
        refine ⟨by simp [h1], fun k x hk => ?_⟩
        cases k with
        | zero => simp only [List.getElem?_cons_zero, Option.some.injEq] at hk; subst hk; exact ⟨_, rfl, .inl rfl⟩
        | succ k => simp only [List.getElem?_cons_succ] at hk ⊢; exact h2 k x hk
      · cases h
    · rename_i r' e
      injection e with e1 e2
      subst e1 e2
      split at h
      · rename_i l hl
        injection h with h
        subst h
        obtain ⟨h1, h2⟩ := toNCs_spec hl
        refine ⟨by simp [h1], fun k x hk => ?_⟩
        cases k with
        | zero => simp only [List.getElem?_cons_zero, Option.some.injEq] at hk; subst hk; exact ⟨_, rfl, .inr ⟨rfl, rfl⟩⟩
        | succ k => simp only [List.getElem?_cons_succ] at hk ⊢; exact h2 k x hk
      · cases h
    · cases h
/-- A cell that can stand in a row. -/
theorem toNC_rep {c : Cell} {x : NC} {v : Value} {p : List Nat} (hc : c = .nc x ∨ (c = .nil ∧ x = .uq 1 1 0 (fun _ _ => .f .any))) (hp : c.plain) (h : c.Rep w β ω [] v) : x.Rep w ω p v := by
  rcases hc with rfl | ⟨rfl, rfl⟩
  · have := Cell.Rep.path hp h p
    exact this
  · exact ⟨by omega, by omega, by simp [big47], .inl ⟨rfl, h⟩⟩
theorem div_unique {i i' sz j j' : Nat} (hj : j < sz) (hj' : j' < sz) (h : i * sz + j = i' * sz + j') : i = i' ∧ j = j' := by
  have h1 : (i * sz + j) / sz = i := by rw [Nat.mul_comm, Nat.mul_add_div (by omega), Nat.div_eq_of_lt hj, Nat.add_zero]
  have h2 : (i' * sz + j') / sz = i' := by rw [Nat.mul_comm, Nat.mul_add_div (by omega), Nat.div_eq_of_lt hj', Nat.add_zero]
  have : i = i' := by rw [← h1, ← h2, h]
  subst this
  exact ⟨rfl, by omega⟩

theorem exec_store {o : Oper} {t : Nat} {x v : Operand} (ho : o.op = .store t x v) {w' : World} (h : (Instr.storeAt t (a.eval x) (a.eval v)).run P w = .ok () w') :
    (execOp a.eval o).run P w = .ok .skip w' := by
  simp only [execOp, ho]
  simp [Sem.run_bind', h, Result.andThen, bind, pure, Sem.run]

theorem store_sound (hT : TOk P T) {o : Oper} {t : Nat} {x v : Operand} (ho : o.op = .store t x v) (hx : opOk x = true) (hv : opOk v = true) {id : Nat} {F : TV → Eds → Prop} (h : stStore σ (T t) o.dst (opE σ none x) (opE σ none v) F) :
    OpSound P o σ id none F := by
  intro a w β ω hs hg
  have rx := opE_rep hs hg hx
  have rv := opE_rep hs hg hv
  generalize opE σ none x = X at *
  generalize opE σ none v = V at *
  unfold stStore at h
  split at h
  · rename_i l sz i j hok hd hlen hkn
    have hlen := Nat.eq_of_beq_eq_true hlen
    obtain ⟨ti, z, tf⟩ := ti_facts hT (okT_ne hok)
    have hpos := tf.pos
    have hdn : o.dst = none := by
      cases hh : o.dst with
      | none => rfl
      | some d => rw [hh] at hd; cases hd
    obtain ⟨hsz, hcells⟩ := cells_of_rep hkn rv
    have hone : ∀ x ∈ (a.eval v).cells.toList, x.oneCell' = true := fun y hy => by
      obtain ⟨k, hk⟩ := List.getElem?_of_mem hy
      have hlt : k < (cellsOf V).length := by
        have := (List.getElem?_eq_some_iff.1 hk).1
        simp at this
        omega
      obtain ⟨hp, u, hu, hr⟩ := hcells k _ (List.getElem?_eq_getElem hlt)
      have : u = y := by
        have h2 : (a.eval v).cells.toList[k]? = some u := by simpa using hu
        rw [hk] at h2
        injection h2 with h2
        exact h2.symm
      subst this
      exact Cell.Rep.one hr
    obtain ⟨_, b, hb, hptr⟩ := rx
    have hvs : (a.eval v).cells.size = (T t).size := by rw [hsz, hlen]
    split at h
    · -- a variable
      rename_i cs hl
      split at h
      · rename_i h1 h2
        have h1 := Nat.eq_of_beq_eq_true h1
        subst h1
        have h2 := Nat.le_of_ble_eq_true h2
        have hl' := lkB_none hl
        obtain ⟨b', arr, hb', hω, hrow, hasz, hc⟩ := hs.hp l none _ hl' trivial
        rw [hb] at hb'
        injection hb' with hb'
        subst hb'
        rw [Nat.zero_mul, Nat.zero_add] at hptr
        have hrun := exec_store (a := a) (P := P) ho (w' := _) (by rw [hptr]; exact storeAt_run hT hok hrow hvs (by omega) hone)
        obtain ⟨hs', hext⟩ := hs.write (cs := (arr.toList.take j ++ (a.eval v).cells.toList ++ arr.toList.drop (j + (T t).size)).toArray) (blk := .var (spliceL cs j (cellsOf V))) hl' hb hω hrow (by simp [hvs]; omega)
          (fun hmv hoth hrow' => ⟨b, _, hb, hω, hrow', by
            have e1 : (spliceL cs j (cellsOf V)).length = cs.length := by simp [spliceL, hlen]; omega
            rw [e1]
            simp [hvs]
            omega, fun m c hm => by
            rw [spliceC_get _ _ _ _ (by omega)] at hm
            have hg := splice_get arr.toList (a.eval v).cells.toList j m (by simp [hvs]; omega)
            simp only [Array.length_toList, hvs] at hg
            simp only [List.getElem?_toArray, hg]
            rw [hlen] at hm
            by_cases e1 : m < j
            · rw [if_pos e1] at hm ⊢
              obtain ⟨u, hu, hr⟩ := hc m c hm
              refine ⟨u, by simpa using hu, Cell.Rep.move hmv (fun x hx q hq => ⟨hoth x ?_, hq⟩) hr⟩
              rintro rfl
              rw [hω] at hq
              simp at hq
            · rw [if_neg e1] at hm ⊢
              by_cases e2 : m < j + (T t).size
              · rw [if_pos e2] at hm ⊢
                obtain ⟨hp, u, hu, hr⟩ := hcells _ c hm
                exact ⟨u, by simpa using hu, Cell.Rep.plainMove hmv hp hr⟩
              · rw [if_neg e2] at hm ⊢
                obtain ⟨u, hu, hr⟩ := hc m c hm
                refine ⟨u, by simpa using hu, Cell.Rep.move hmv (fun x hx q hq => ⟨hoth x ?_, hq⟩) hr⟩
                rintro rfl
                rw [hω] at hq
                simp at hq⟩)
        simp only [Oper.wp, hrun, Oper.upon]
        refine ⟨_, _, β, ω, h, ?_, hext, fun _ _ => rfl⟩
        rw [hdn]
        exact hs'
      · exact h.elim
    · -- a row
      rename_i sz' bw n c hh hole hl
      split at h
      · rename_i h1 h2
        have h1 := Nat.eq_of_beq_eq_true h1
        subst h1
        have h2 := Nat.le_of_ble_eq_true h2
        have hl' := lkB_none hl
        obtain ⟨hz, hb1, hb2, hr⟩ := hs.hp l none _ hl' trivial
        rcases hr with ⟨hn, _⟩ | ⟨b', arr, hb', hω, hrow, hasz, hcap, hc⟩
        · rw [hn] at hb; cases hb
        rw [hb] at hb'
        injection hb' with hb'
        subst hb'
        have bound : ∀ i j, i < n → j < sz' → i * sz' + j < n * sz' := fun i j hi hj => by
          have : i * sz' + sz' ≤ n * sz' := by rw [← Nat.succ_mul]; exact Nat.mul_le_mul_right _ hi
          omega
        have fit : i < n → i * sz' + j + (T t).size ≤ n * sz' := fun hi => by
          have : i * sz' + sz' ≤ n * sz' := by rw [← Nat.succ_mul]; exact Nat.mul_le_mul_right _ hi
          omega
        split at h
        · split at h
          · rename_i ncs hncs
            obtain ⟨hnl, hnc⟩ := toNCs_spec hncs
            obtain ⟨hob, h⟩ := h
            have hi := hob.out
            have hrun := exec_store (a := a) (P := P) ho (w' := _) (by rw [hptr]; exact storeAt_run hT hok hrow hvs (by have := fit hi; omega) hone)
            obtain ⟨hs', hext⟩ := hs.write (cs := (arr.toList.take (i * sz' + j) ++ (a.eval v).cells.toList ++ arr.toList.drop (i * sz' + j + (T t).size)).toArray) (blk := .arr sz' bw n c (updA hh i j ncs) none) hl' hb hω hrow
              (by have := fit hi; simp [hvs]; omega)
              (fun hmv hoth hrow' => ⟨hz, hb1, hb2, .inr ⟨b, _, hb, hω, hrow', by have := fit hi; simp [hvs]; omega, fun c0 hc0 => by have := fit hi; rw [← hcap c0 hc0]; simp [hvs]; omega, fun i' hi' j' hj' => by
                have hg := splice_get arr.toList (a.eval v).cells.toList (i * sz' + j) (i' * sz' + j') (by have := fit hi; simp [hvs]; omega)
                simp only [Array.length_toList, hvs] at hg
                simp only [List.getElem?_toArray, hg, arrCell]
                have old : ∃ u, arr.toList[i' * sz' + j']? = some u ∧ (Cell.nc (hh i' j')).Rep (w.setRow b (arr.toList.take (i * sz' + j) ++ (a.eval v).cells.toList ++ arr.toList.drop (i * sz' + j + (T t).size)).toArray) β ω [l, i', j'] u := by
                  obtain ⟨u, hu, hr⟩ := hc i' hi' j' hj'
                  refine ⟨u, by simpa using hu, Cell.Rep.move (p := [l, i', j']) hmv (fun x hx q hq => ⟨hoth x ?_, hq⟩) hr⟩
                  rintro rfl
                  rw [hω] at hq
                  simp at hq
                by_cases e : i' = i ∧ j ≤ j' ∧ j' < j + (T t).size
                · obtain ⟨rfl, e1, e2⟩ := e
                  rw [if_neg (by omega), if_pos (by omega)]
                  have hlt : j' - j < ncs.length := by omega
                  have hx := List.getElem?_eq_getElem hlt
                  obtain ⟨c', hc', hcc⟩ := hnc _ _ hx
                  obtain ⟨hp, u, hu, hr⟩ := hcells _ c' hc'
                  refine ⟨u, ?_, ?_⟩
                  · rw [show i' * sz' + j' - (i' * sz' + j) = j' - j by omega]
                    simpa using hu
                  · have : updA hh i' j ncs i' j' = ncs[j' - j] := by simp [updA, Nat.ble_eq_true_of_le e1, hx]
                    rw [this]
                    exact toNC_rep hcc hp (Cell.Rep.plainMove hmv hp hr)
                · have hu : updA hh i j ncs i' j' = hh i' j' := by
                    simp only [updA]
                    cases hb : Nat.beq i' i with
                    | false => rfl
                    | true =>
                      have := Nat.eq_of_beq_eq_true hb
                      subst this
                      simp only
                      cases hb2 : Nat.ble j j' with
                      | false => rfl
                      | true =>
                        have hle := Nat.le_of_ble_eq_true hb2
                        have : ncs[j' - j]? = none := List.getElem?_eq_none (by omega)
                        rw [this]
                  rw [hu]
                  by_cases e1 : i' * sz' + j' < i * sz' + j
                  · rw [if_pos e1]; exact old
                  · rw [if_neg e1]
                    by_cases e2 : i' * sz' + j' < i * sz' + j + (T t).size
                    · exfalso
                      have hq : i' * sz' + j' = i * sz' + (i' * sz' + j' - i * sz') := by omega
                      obtain ⟨e3, e4⟩ := div_unique (by exact hj') (by omega) hq
                      exact e ⟨e3, by omega, by omega⟩
                    · rw [if_neg e2]; exact old⟩⟩)
            simp only [Oper.wp, hrun, Oper.upon]
            refine ⟨_, _, β, ω, h, ?_, hext, fun _ _ => rfl⟩
            rw [hdn]
            exact hs'
          · exact h.elim
        · rename_i i' j' c'
          split at h
          · rename_i y hagg hj hy
            have hj := Nat.eq_of_beq_eq_true hj
            subst hj
            obtain ⟨hob, h⟩ := h
            obtain ⟨hii, hi⟩ := hob.out
            subst hii
            have hs1 : (T t).size = 1 := by rw [← hlen, hy]; rfl
            rw [hs1] at hvs h2
            have hrun := exec_store (a := a) (P := P) ho (w' := _) (by rw [hptr]; exact storeAt_run hT hok hrow (by rw [hs1]; exact hvs) (by have := fit hi; omega) hone)
            rw [hs1] at hrun
            obtain ⟨hyp, u0, hu0, hr0⟩ := hcells 0 y (by rw [hy]; rfl)
            obtain ⟨hs', hext⟩ := hs.write (cs := (arr.toList.take (i * sz' + j) ++ (a.eval v).cells.toList ++ arr.toList.drop (i * sz' + j + 1)).toArray) (blk := .arr sz' bw n c hh (some (i, j, y))) hl' hb hω hrow
              (by have := fit hi; simp [hvs]; omega)
              (fun hmv hoth hrow' => ⟨hz, hb1, hb2, .inr ⟨b, _, hb, hω, hrow', by have := fit hi; simp [hvs]; omega, fun c0 hc0 => by have := fit hi; rw [← hcap c0 hc0]; simp [hvs]; omega, fun i' hi' j' hj' => by
                have hg := splice_get arr.toList (a.eval v).cells.toList (i * sz' + j) (i' * sz' + j') (by have := fit hi; simp [hvs]; omega)
                simp only [Array.length_toList, hvs] at hg
                simp only [List.getElem?_toArray, hg, arrCell]
                by_cases e : i' = i ∧ j' = j
                · obtain ⟨rfl, rfl⟩ := e
                  rw [if_neg (by omega), if_pos (by omega), if_pos ⟨rfl, rfl⟩, Nat.sub_self]
                  exact ⟨u0, by simpa using hu0, Cell.Rep.plainMove hmv hyp hr0⟩
                · have hne : i' * sz' + j' ≠ i * sz' + j := fun e' => e (div_unique hj' (by omega) e')
                  have old : ∃ u, arr.toList[i' * sz' + j']? = some u ∧ (Cell.nc (hh i' j')).Rep (w.setRow b (arr.toList.take (i * sz' + j) ++ (a.eval v).cells.toList ++ arr.toList.drop (i * sz' + j + 1)).toArray) β ω [l, i', j'] u := by
                    obtain ⟨u, hu, hr⟩ := hc i' hi' j' hj'
                    simp only [arrCell, if_neg e] at hr
                    refine ⟨u, by simpa using hu, Cell.Rep.move (p := [l, i', j']) hmv (fun x hx q hq => ⟨hoth x ?_, hq⟩) hr⟩
                    rintro rfl
                    rw [hω] at hq
                    simp at hq
                  rw [if_neg e]
                  by_cases e1 : i' * sz' + j' < i * sz' + j
                  · rw [if_pos e1]; exact old
                  · rw [if_neg e1, if_neg (by omega)]; exact old⟩⟩)
            simp only [Oper.wp, hrun, Oper.upon]
            refine ⟨_, _, β, ω, h, ?_, hext, fun _ _ => rfl⟩
            rw [hdn]
            exact hs'
          · exact h.elim
      · exact h.elim
    · exact h.elim
  · exact h.elim
end
end Go.Ice
end

section
set_option linter.unusedVariables false
set_option linter.unusedSimpArgs false
namespace Go.Ice
section
variable {P : Program} {T : Nat → TI} {σ : AS} {a : Act} {w : World} {β : Nat → Option Nat} {ω : Nat → Option (List Nat)}

/-- Entries go, one comes; the world may have turned where it was theirs. -/
theorem Sat.replace (h : Sat σ a w β ω) {hp : List (Nat × HE)} {id : Nat} {g : Gd} {blk : Blk} {w' : World} {B : Option Nat} {ω' : Nat → Option (List Nat)} (hf : σ.fresh id = true) (hmv : Mv w ω w' ω')
    (hsub : ∀ k e, k ≠ id → lkH hp k = some e → lkH σ.hp k = some e ∧ ∀ b, b < w.heap.size → ∀ q, ω b = some (k :: q) → w'.heap[b]? = w.heap[b]? ∧ ω' b = some (k :: q))
    (hid : lkH hp id = some (g, blk)) (hblk : gTrue a g → blk.Rep w' (upd β id B) ω' id) (hcl : ∀ b k p, ω' b = some (k :: p) → ∃ e, lkH hp k = some e) (hlt : ∀ b p, ω' b = some p → b < w'.heap.size) :
    Sat { σ with hp := hp } a w' (upd β id B) ω' := by
  refine ⟨h.nt, h.df, fun j => ((h.tm j).upd (lkT_no (Sat.fresh_tm hf) j)).move hmv, fun k g' b hk hg => ?_, hcl, hlt⟩
  by_cases e : k = id
  · subst e
    rw [hid] at hk
    injection hk with hk
    injection hk with h1 h2
    subst h1 h2
    exact hblk hg
  · obtain ⟨h1, h2⟩ := hsub k _ e hk
    exact ((h.hp k g' b h1 hg).upd e (lkH_no (Sat.fresh_hp hf) h1).2).move hmv rfl h2

/-! ### Rows that are built -/
/-- The cells of a literal's elements; one slice of the call's own may go into it. -/
def packL (σ : AS) : Nat → List Cell → Option (List NC × Option (Nat × Nat) × Prop)
  | _, [] => some ([], none, True)
  | k, c :: r => match packL σ (k + 1) r with
    | some (ns, o, p) => match c with
      | .nc x => some (x :: ns, o, p)
      | .nil => some (.uq 1 1 0 (fun _ _ => .f .any) :: ns, o, p)
      | .own l sz off n => match o, off, lkH σ.hp l with
        | none, 0, some (none, .arr sz' bw n' _ g none) => match Nat.beq sz sz' with
          | true => some (.uq sz bw n g :: ns, some (l, k), n = n' ∧ p)
          | false => none
        | _, _, _ => none
      | _ => none
    | none => none
def tabLL (sz : Nat) (l : List NC) : Nat → Nat → NC := fun i j => l.getD (i * sz + j) (.f .any)
/-- Literal rows: nothing but cells, in their order. -/
def partsOf (σ : AS) (g : Gd) : Nat → List (Nat × Operand) → Option (List (List Cell))
  | _, [] => some []
  | k, (i, x) :: r => match Nat.beq i k, knownE (opE σ g x) with
    | true, true => match partsOf σ g (k + 1) r with
      | some l => some (cellsOf (opE σ g x) :: l)
      | none => none
    | _, _ => none
def allLen (n : Nat) : List (List Cell) → Bool
  | [] => true
  | c :: r => Nat.beq c.length n && allLen n r
/-- Element by element, literally: so that an index that is known is looked up at once. -/
def tabEl (sz : Nat) : List NC → Nat → List (List NC)
  | l, 0 => []
  | l, n + 1 => l.take sz :: tabEl sz (l.drop sz) n
def tabG (ls : List (List NC)) : Nat → Nat → NC := fun i j => (ls.getD i []).getD j (.f .any)

theorem fill_get (place : Nat → Option (Nat × Nat)) : ∀ (parts : List (Nat × Value)) (cells out : Array Value), Instr.fill place cells parts = some out → out.size = cells.size
  | [], cells, out, h => by simp only [Instr.fill, Option.some.injEq] at h; rw [h]
  | (i, v) :: rest, cells, out, h => by
    simp only [Instr.fill] at h
    split at h
    · cases h
    · split at h
      · cases h
      · have := fill_get place rest _ out h
        rw [this]
        generalize v.cells.zipIdx = l
        have key : ∀ (l : List (Value × Nat)) (off : Nat) (cs : Array Value), (l.foldl (fun cs x => cs.setIfInBounds (off + x.2) x.1) cs).size = cs.size := by
          intro l off
          induction l with
          | nil => intro cs; rfl
          | cons x r ih => intro cs; simp only [List.foldl_cons]; rw [ih]; simp
        rw [← Array.foldl_toList]
        exact key _ _ _
end
end Go.Ice
end

section
set_option linter.unusedVariables false
set_option linter.unusedSimpArgs false
namespace Go.Ice
section
variable {P : Program} {T : Nat → TI} {σ : AS} {a : Act} {w : World} {β : Nat → Option Nat} {ω : Nat → Option (List Nat)}

theorem fold_set : ∀ (l : List Value) (k off : Nat) (cs : Array Value), off + k + l.length ≤ cs.size →
    ((l.zipIdx k).foldl (fun cs x => cs.setIfInBounds (off + x.2) x.1) cs).toList = cs.toList.take (off + k) ++ l ++ cs.toList.drop (off + k + l.length)
  | [], k, off, cs, _ => by simp
  | v :: r, k, off, cs, h => by
    simp only [List.zipIdx_cons, List.foldl_cons]
    rw [fold_set r (k + 1) off _ (by simp at h ⊢; omega)]
    have e := list_seg_step cs.toList (off + k) v r (by simp at h ⊢; omega)
    simpa [Array.toList_setIfInBounds, Nat.add_assoc] using e

theorem fill_full (size : Nat) : ∀ (vs : List Value) (k : Nat) (cells : Array Value), (∀ v ∈ vs, v.cells.size = size) → (k + vs.length) * size ≤ cells.size →
    ∃ out, Instr.fill (fun i => some (i * size, size)) cells ((vs.zipIdx k).map fun x => (x.2, x.1)) = some out ∧ out.toList = cells.toList.take (k * size) ++ (vs.map fun v => v.cells.toList).flatten ++ cells.toList.drop ((k + vs.length) * size)
  | [], k, cells, _, _ => ⟨cells, rfl, by simp⟩
  | v :: r, k, cells, hv, hle => by
    have h0 : v.cells.size = size := hv v (by simp)
    have hfit : k * size + size ≤ cells.size := by
      have : (k + 1) * size ≤ (k + (v :: r).length) * size := Nat.mul_le_mul_right _ (by simp)
      rw [Nat.succ_mul] at this
      omega
    simp only [List.zipIdx_cons, List.map_cons, Instr.fill]
    rw [if_neg (by rw [h0]; simp; omega)]
    have hf := fold_set v.cells.toList 0 (k * size) cells (by simp [h0]; omega)
    have ez : v.cells.zipIdx.foldl (fun cs x => cs.setIfInBounds (k * size + x.2) x.1) cells = (v.cells.toList.zipIdx 0).foldl (fun cs x => cs.setIfInBounds (k * size + x.2) x.1) cells := by
      rw [← Array.foldl_toList]
      simp
    obtain ⟨out, h1, h2⟩ := fill_full size r (k + 1) ((v.cells.toList.zipIdx 0).foldl (fun cs x => cs.setIfInBounds (k * size + x.2) x.1) cells) (fun v hv' => hv v (by simp [hv'])) (by
      have : ((v.cells.toList.zipIdx 0).foldl (fun cs x => cs.setIfInBounds (k * size + x.2) x.1) cells).size = cells.size := by
        rw [← Array.length_toList, hf]
        simp [h0]
        omega
      rw [this]
      have e : k + 1 + r.length = k + (v :: r).length := by simp; omega
      rw [e]
      exact hle)
    refine ⟨out, ?_, ?_⟩
    · rw [← h1]
      congr 1
    · rw [h2, hf]
      have hv0 : v.cells.toList.length = size := by rw [Array.length_toList, h0]
      simp only [Nat.add_zero, hv0]
      have hk : (cells.toList.take (k * size)).length = k * size := by rw [List.length_take, Array.length_toList]; omega
      have e1 : (k + 1) * size = k * size + size := Nat.succ_mul _ _
      have e2 : (k + 1 + r.length) * size = k * size + size + r.length * size := by rw [Nat.add_mul, e1]
      have e3 : (k + (v :: r).length) * size = k * size + size + r.length * size := by rw [List.length_cons, ← e2]; congr 1; omega
      have hv' : v.cells.toList.length = size := by rw [Array.length_toList, h0]
      have hl2 : (cells.toList.take (k * size) ++ v.cells.toList).length = k * size + size := by rw [List.length_append, hk, hv']
      rw [e1, e2, e3, List.take_append_of_le_length (by rw [hl2]; exact Nat.le_refl _), List.take_of_length_le (by rw [hl2]; exact Nat.le_refl _),
        List.drop_append, List.drop_eq_nil_of_le (by rw [hl2]; omega), List.nil_append, List.drop_drop, hl2]
      simp only [List.map_cons, List.flatten_cons, List.append_assoc]
      congr 4
      omega
end
end Go.Ice
end

section
set_option linter.unusedVariables false
set_option linter.unusedSimpArgs false
namespace Go.Ice
section
variable {P : Program} {T : Nat → TI} {σ : AS} {a : Act} {w : World} {β : Nat → Option Nat} {ω : Nat → Option (List Nat)}

theorem tabEl_get (sz : Nat) : ∀ (n : Nat) (l : List NC) (i : Nat), i < n → (tabEl sz l n).getD i [] = (l.drop (i * sz)).take sz
  | 0, l, i, h => by omega
  | n + 1, l, 0, h => by simp [tabEl]
  | n + 1, l, i + 1, h => by
    have := tabEl_get sz n (l.drop sz) i (by omega)
    simp only [tabEl, List.getD_cons_succ, this, List.drop_drop]
    congr 2
    rw [Nat.succ_mul]
    omega
theorem tabG_get {sz n : Nat} {l : List NC} {i j : Nat} (hi : i < n) (hj : j < sz) : tabG (tabEl sz l n) i j = l.getD (i * sz + j) (.f .any) := by
  unfold tabG
  rw [tabEl_get sz n l i hi]
  simp only [List.getD_eq_getElem?_getD, List.getElem?_take, List.getElem?_drop, if_pos hj]

theorem packL_spec : ∀ {cs : List Cell} {k : Nat} {ns : List NC} {o : Option (Nat × Nat)} {p : Prop}, packL σ k cs = some (ns, o, p) →
    ns.length = cs.length ∧ (∀ l q, o = some (l, q) → k ≤ q ∧ ∃ sz bw n n' c g, cs[q - k]? = some (.own l sz 0 n) ∧ ns[q - k]? = some (.uq sz bw n g) ∧ lkH σ.hp l = some (none, .arr sz bw n' c g none) ∧ (p → n = n')) ∧
    ∀ (m : Nat) (c : Cell), cs[m]? = some c → (∀ l, o ≠ some (l, k + m)) → ∃ x, ns[m]? = some x ∧ (c = .nc x ∨ (c = .nil ∧ x = .uq 1 1 0 (fun _ _ => .f .any)))
  | [], k, ns, o, p, h => by
    simp only [packL, Option.some.injEq, Prod.mk.injEq] at h
    obtain ⟨h1, h2, h3⟩ := h
    subst h1 h2
    exact ⟨rfl, (fun l q e => by cases e), fun m c e => by simp at e⟩
  | c :: r, k, ns, o, p, h => by
    simp only [packL] at h
    split at h
    · rename_i ns' o' p' hr
      obtain ⟨h1, h2, h3⟩ := packL_spec hr
      have tail : ∀ (x : NC), ns = x :: ns' → o = o' → (p → p') → (c = .nc x ∨ (c = .nil ∧ x = .uq 1 1 0 (fun _ _ => .f .any))) →
          ns.length = (c :: r).length ∧ (∀ l q, o = some (l, q) → k ≤ q ∧ ∃ sz bw n n' c' g, (c :: r)[q - k]? = some (.own l sz 0 n) ∧ ns[q - k]? = some (.uq sz bw n g) ∧ lkH σ.hp l = some (none, .arr sz bw n' c' g none) ∧ (p → n = n')) ∧
          ∀ (m : Nat) (c' : Cell), (c :: r)[m]? = some c' → (∀ l, o ≠ some (l, k + m)) → ∃ x, ns[m]? = some x ∧ (c' = .nc x ∨ (c' = .nil ∧ x = .uq 1 1 0 (fun _ _ => .f .any))) := by
        intro x e1 e2 e3 e4
        subst e1 e2
        refine ⟨by simp [h1], fun l q e => ?_, fun m c' hm hne => ?_⟩
        · obtain ⟨hk, sz, bw, n, n', c', g, a1, a2, a3, a4⟩ := h2 l q e
          have e : q - k = (q - (k + 1)) + 1 := by omega
          exact ⟨by omega, sz, bw, n, n', c', g, by rw [e]; exact a1, by rw [e]; exact a2, a3, fun hp => a4 (e3 hp)⟩
        · cases m with
          | zero =>
            simp only [List.getElem?_cons_zero, Option.some.injEq] at hm
            subst hm
            exact ⟨x, rfl, e4⟩
          | succ m =>
            simp only [List.getElem?_cons_succ] at hm ⊢
            exact h3 m c' hm (fun l => by have := hne l; rwa [show k + 1 + m = k + (m + 1) by omega])
      split at h
      · rename_i x
        simp only [Option.some.injEq, Prod.mk.injEq] at h
        obtain ⟨e1, e2, e3⟩ := h
        exact tail x e1.symm e2.symm (fun hp => by rw [e3]; exact hp) (.inl rfl)
      · simp only [Option.some.injEq, Prod.mk.injEq] at h
        obtain ⟨e1, e2, e3⟩ := h
        exact tail _ e1.symm e2.symm (fun hp => by rw [e3]; exact hp) (.inr ⟨rfl, rfl⟩)
      · rename_i l sz off n
        split at h
        · rename_i sz' bw n' c' g hl
          split at h
          · rename_i hsz
            have hsz := Nat.eq_of_beq_eq_true hsz
            subst hsz
            simp only [Option.some.injEq, Prod.mk.injEq] at h
            obtain ⟨e1, e2, e3⟩ := h
            subst e1 e2
            refine ⟨by simp [h1], fun l' q e => ?_, fun m c' hm hne => ?_⟩
            · simp only [Option.some.injEq, Prod.mk.injEq] at e
              obtain ⟨e4, e5⟩ := e
              subst e4 e5
              exact ⟨Nat.le_refl _, sz, bw, n, n', c', g, by simp, by simp, hl, fun hp => by rw [← e3] at hp; exact hp.1⟩
            · cases m with
              | zero => exact absurd rfl (hne l)
              | succ m =>
                simp only [List.getElem?_cons_succ] at hm ⊢
                exact h3 m c' hm (fun l => by rintro ⟨⟩)
          · cases h
        · cases h
      · cases h
    · cases h

theorem partsOf_spec (hs : Sat σ a w β ω) {g : Gd} (hg : gTrue a g) : ∀ {parts : List (Nat × Operand)} {k : Nat} {els : List (List Cell)}, (parts.all fun x => opOk x.2) = true → partsOf σ g k parts = some els →
    parts.map (fun x => (x.1, a.eval x.2)) = ((parts.map fun x => a.eval x.2).zipIdx k).map (fun x => (x.2, x.1)) ∧ els.length = parts.length ∧
    (∀ (m : Nat) (cs : List Cell), els[m]? = some cs → ∃ v, (parts.map fun x => a.eval x.2)[m]? = some v ∧ v.cells.size = cs.length ∧ ∀ (j : Nat) (c : Cell), cs[j]? = some c → c.plain ∧ ∃ u, v.cells[j]? = some u ∧ c.Rep w β ω [] u)
  | [], k, els, _, h => by
    simp only [partsOf, Option.some.injEq] at h
    subst h
    exact ⟨rfl, rfl, fun m cs e => by simp at e⟩
  | (i, x) :: r, k, els, ho, h => by
    simp only [List.all_cons, Bool.and_eq_true] at ho
    simp only [partsOf] at h
    split at h
    · rename_i hi hk
      have hi := Nat.eq_of_beq_eq_true hi
      subst hi
      split at h
      · rename_i l hl
        injection h with h
        subst h
        obtain ⟨h1, h2, h3⟩ := partsOf_spec hs hg ho.2 hl
        refine ⟨by simp [h1], by simp [h2], fun m cs hm => ?_⟩
        cases m with
        | zero =>
          simp only [List.getElem?_cons_zero, Option.some.injEq] at hm
          subst hm
          obtain ⟨e1, e2⟩ := cells_of_rep hk (opE_rep hs hg ho.1)
          exact ⟨_, rfl, e1, e2⟩
        | succ m =>
          simp only [List.getElem?_cons_succ] at hm
          obtain ⟨v, hv, rest⟩ := h3 m cs hm
          exact ⟨v, by simpa using hv, rest⟩
      · cases h
    · cases h
theorem partsOf_no {l : Nat} (hf : σ.fresh l = true) {g : Gd} : ∀ {parts : List (Nat × Operand)} {k : Nat} {els : List (List Cell)}, partsOf σ g k parts = some els → ∀ cs ∈ els, cellsNo l cs = true
  | [], k, els, h => by
    simp only [partsOf, Option.some.injEq] at h
    subst h
    intro cs hc
    cases hc
  | (i, x) :: r, k, els, h => by
    simp only [partsOf] at h
    split at h
    · split at h
      · rename_i l hl
        injection h with h
        subst h
        intro cs hc
        cases hc with
        | head => exact cellsOf_no (opE_no hf g x)
        | tail _ hm => exact partsOf_no hf hl cs hm
      · cases h
    · cases h
theorem allLen_mem {n : Nat} {ls : List (List Cell)} (h : allLen n ls = true) {c : List Cell} (hc : c ∈ ls) : c.length = n := by
  induction ls with
  | nil => cases hc
  | cons x r ih =>
    simp only [allLen, Bool.and_eq_true] at h
    cases hc with
    | head => exact Nat.eq_of_beq_eq_true h.1
    | tail _ hm => exact ih h.2 hm
/-- Element after element, cell after cell. -/
theorem flat_rep {n : Nat} : ∀ {els : List (List Cell)} {vs : List Value}, els.length = vs.length → (∀ c ∈ els, c.length = n) →
    (∀ (m : Nat) (cs : List Cell), els[m]? = some cs → ∃ v, vs[m]? = some v ∧ v.cells.size = cs.length ∧ ∀ (j : Nat) (c : Cell), cs[j]? = some c → c.plain ∧ ∃ u, v.cells[j]? = some u ∧ c.Rep w β ω [] u) →
    els.flatten.length = els.length * n ∧ (vs.map fun v => v.cells.toList).flatten.length = els.length * n ∧
    ∀ (m : Nat) (c : Cell), els.flatten[m]? = some c → c.plain ∧ ∃ u, (vs.map fun v => v.cells.toList).flatten[m]? = some u ∧ c.Rep w β ω [] u
  | [], vs, hl, _, _ => by
    cases vs with
    | nil => exact ⟨by simp, by simp, fun m c e => by simp at e⟩
    | cons v r => simp at hl
  | cs :: els, [], hl, _, _ => by simp at hl
  | cs :: els, v :: vs, hl, hn, hc => by
    have h0 := hn cs (by simp)
    obtain ⟨v', hv', hsz, hcells⟩ := hc 0 cs rfl
    simp only [List.getElem?_cons_zero, Option.some.injEq] at hv'
    subst hv'
    obtain ⟨h1, h2, h3⟩ := flat_rep (els := els) (vs := vs) (by simpa using hl) (fun c hm => hn c (by simp [hm])) (fun m cs' hm => by
      have := hc (m + 1) cs' (by simpa using hm)
      simpa using this)
    have hvl : v.cells.toList.length = n := by rw [Array.length_toList, hsz, h0]
    refine ⟨by simp [h1, h0, Nat.succ_mul]; omega, by simp only [List.map_cons, List.flatten_cons, List.length_append, hvl, h2, List.length_cons, Nat.succ_mul]; omega, fun m c hm => ?_⟩
    simp only [List.flatten_cons, List.map_cons] at hm ⊢
    by_cases hlt : m < n
    · rw [List.getElem?_append_left (by omega)] at hm
      obtain ⟨hp, u, hu, hr⟩ := hcells m c hm
      exact ⟨hp, u, by rw [List.getElem?_append_left (by omega)]; simpa using hu, hr⟩
    · rw [List.getElem?_append_right (by omega)] at hm
      obtain ⟨hp, u, hu, hr⟩ := h3 _ c hm
      refine ⟨hp, u, ?_, hr⟩
      rw [List.getElem?_append_right (by omega), hvl, ← h0]
      exact hu
end
end Go.Ice
end

section
set_option linter.unusedVariables false
set_option linter.unusedSimpArgs false
namespace Go.Ice
section
variable {P : Program} {T : Nat → TI} {σ : AS} {a : Act} {w : World} {β : Nat → Option Nat} {ω : Nat → Option (List Nat)}

def stBuildSlice (T : Nat → TI) (σ : AS) (id : Nat) (g : Gd) (t : TI) (len : Nat) (parts : List (Nat × Operand)) (F : TV → Eds → Prop) : Prop :=
  match t.kind with
  | .slice e => match okT (T e), σ.fresh id, Nat.ble (len * (T e).size) 16777216, Nat.ble (len * (T e).bytes) 16777216, partsOf σ g 0 parts with
    | true, true, true, true, some els => match Nat.beq els.length len, allLen (T e).size els, packL σ 0 els.flatten with
      | true, true, some (ns, none, p) => F (.e (.c (.own id (T e).size 0 len))) [(id, some (.arr (T e).size (T e).bytes len none (tabG (tabEl (T e).size ns len)) none))]
      | true, true, some (ns, some (l, k), p) => match g with
        | none => Ob p ∧ F (.e (.c (.own id (T e).size 0 len))) [(l, none), (id, some (.arr (T e).size (T e).bytes len none (tabG (tabEl (T e).size ns len)) none))]
        | some _ => False
      | _, _, _ => False
    | _, _, _, _, _ => False
  | _ => False

theorem buildSlice_run (hT : TOk P T) {o : Oper} {t len e : Nat} {parts : Array (Nat × Operand)} (ho : o.op = .buildSlice t len parts) (hk : (T t).kind = .slice e) (hok : okT (T e) = true) (hb : len * (T e).size ≤ 16777216) (hs : Sat σ a w β ω)
    {g : Gd} (hg : gTrue a g) (hop : (parts.toList.all fun x => opOk x.2) = true) {els : List (List Cell)} (hels : partsOf σ g 0 parts.toList = some els) (hlen : els.length = len) (hall : allLen (T e).size els = true) :
    ∃ arr : Array Value, (execOp a.eval o).run P w = .ok (.value (.slice (some ⟨w.heap.size, 0, none⟩) len len)) (w.alloc (.cells arr e)) ∧ arr.size = len * (T e).size ∧ els.flatten.length = len * (T e).size ∧
      ∀ (m : Nat) (c : Cell), els.flatten[m]? = some c → c.plain ∧ ∃ u, arr[m]? = some u ∧ c.Rep w β ω [] u := by
  obtain ⟨ti, z, tf⟩ := ti_facts hT (okT_ne hok)
  obtain ⟨h1, h2, h3⟩ := partsOf_spec hs hg hop hels
  have hvl : (parts.toList.map fun x => a.eval x.2).length = len := by rw [List.length_map, ← h2, hlen]
  obtain ⟨f1, f2, f3⟩ := flat_rep (n := (T e).size) (vs := parts.toList.map fun x => a.eval x.2) (by rw [hvl, hlen]) (fun c hc => allLen_mem hall hc) h3
  have hvs : ∀ v ∈ (parts.toList.map fun x => a.eval x.2), v.cells.size = (T e).size := fun v hv => by
    obtain ⟨m, hm⟩ := List.getElem?_of_mem hv
    have hml : m < els.length := by
      have := (List.getElem?_eq_some_iff.1 hm).1
      rw [hvl] at this
      omega
    obtain ⟨v', hv', hsz, _⟩ := h3 m _ (List.getElem?_eq_getElem hml)
    rw [hm] at hv'
    injection hv' with hv'
    rw [hv', hsz]
    exact allLen_mem hall (List.getElem_mem hml)
  have fill : ∀ zs : Array Value, zs.size = len * (T e).size → ∃ out, Instr.fill (fun i => some (i * (T e).size, (T e).size)) zs (parts.toList.map fun x => (x.1, a.eval x.2)) = some out ∧ out.toList = ((parts.toList.map fun x => a.eval x.2).map fun v => v.cells.toList).flatten := fun zs hz => by
    obtain ⟨out, e1, e2⟩ := fill_full (T e).size (parts.toList.map fun x => a.eval x.2) 0 zs hvs (by rw [Nat.zero_add, hvl, hz]; exact Nat.le_refl _)
    refine ⟨out, by rw [h1]; exact e1, ?_⟩
    rw [e2, Nat.zero_mul, Nat.zero_add, hvl]
    simp [hz]
  have hzero : ∃ zs : Array Value, zs.size = len * (T e).size ∧ ∀ out, Instr.fill (fun i => some (i * (T e).size, (T e).size)) zs (parts.toList.map fun x => (x.1, a.eval x.2)) = some out →
      (Instr.buildSlice t len (parts.map fun (i, x) => (i, a.eval x))).run P w = .ok (.slice (some ⟨w.heap.size, 0, none⟩) len len) (w.alloc (.cells out e)) := by
    by_cases hl0 : len * (T e).size = 0
    · refine ⟨(Array.range (len * (T e).size)).map ((#[] : Array Value)[· % 0]!), by simp, fun out hout => ?_⟩
      have hb' : ¬ (16777216 < len * (T e).size) := by omega
      simp only [Instr.buildSlice, bind, pure, Sem.run_bind', run_underlying (under_slice hT hk), Result.andThen, sizeOf_run tf, Sem.bind, Sem.run]
      have e2 : (2 : Nat) ^ 24 = 16777216 := by decide
      simp only [e2, hb', gt_iff_lt, if_false, hl0, if_true, Sem.run_bind', Sem.run, Result.andThen, Sem.bind]
      have e3 : (parts.map fun x => (x.1, a.eval x.2)).toList = parts.toList.map fun x => (x.1, a.eval x.2) := by simp
      have e4 : Instr.fill (fun i => some (i * (T e).size, (T e).size)) ((Array.range 0).map ((#[] : Array Value)[· % (#[] : Array Value).size]!)) (parts.map fun x => (x.1, a.eval x.2)).toList = some out := by
        rw [e3, ← hout, hl0]
        rfl
      simp only [e4, Sem.run_bind', newRow, newObj, bind, pure, Sem.run, Result.andThen, Sem.bind]
      rfl
    · refine ⟨(Array.range (len * (T e).size)).map (z.cells[· % z.cells.size]!), by simp, fun out hout => ?_⟩
      have hb' : ¬ (16777216 < len * (T e).size) := by omega
      simp only [Instr.buildSlice, bind, pure, Sem.run_bind', run_underlying (under_slice hT hk), Result.andThen, sizeOf_run tf, Sem.bind, Sem.run]
      have e2 : (2 : Nat) ^ 24 = 16777216 := by decide
      simp only [e2, hb', gt_iff_lt, if_false, hl0, Sem.run_bind', Sem.run, Result.andThen, Sem.bind, zeroValue_run tf]
      have e3 : (parts.map fun x => (x.1, a.eval x.2)).toList = parts.toList.map fun x => (x.1, a.eval x.2) := by simp
      rw [e3, hout]
      simp only [Sem.run_bind', newRow, newObj, bind, pure, Sem.run, Result.andThen, Sem.bind]
      rfl
  obtain ⟨zs, hz, hrun⟩ := hzero
  obtain ⟨out, ho1, ho2⟩ := fill zs hz
  refine ⟨out, ?_, ?_, by rw [f1, hlen], fun m c hm => ?_⟩
  · simp only [execOp, ho]
    simp [Sem.run_bind', hrun out ho1, Result.andThen, bind, pure, Sem.run]
  · rw [← Array.length_toList, ho2, f2, hlen]
  · obtain ⟨hp, u, hu, hr⟩ := f3 m c hm
    refine ⟨hp, u, ?_, hr⟩
    rw [← Array.getElem?_toList, ho2]
    exact hu
end
end Go.Ice
end

section
set_option linter.unusedVariables false
set_option linter.unusedSimpArgs false
namespace Go.Ice
section
variable {P : Program} {T : Nat → TI} {σ : AS} {a : Act} {w : World} {β : Nat → Option Nat} {ω : Nat → Option (List Nat)}

theorem tagNo_delH {d : Nat} {hp : List (Nat × HE)} (h : tagNo d hp = true) (l : Nat) : tagNo d (delH hp l) = true := by
  induction hp with
  | nil => rfl
  | cons kv r ih =>
    obtain ⟨k, g, b⟩ := kv
    simp only [delH]
    cases g with
    | none =>
      cases Nat.beq k l with
      | true => exact ih h
      | false => exact ih h
    | some sp =>
      simp only [tagNo, Bool.and_eq_true] at h
      cases Nat.beq k l with
      | true => exact ih h.2
      | false => simp only [tagNo, Bool.and_eq_true]; exact ⟨h.1, ih h.2⟩
theorem own_new {id sz n : Nat} {arr : Array Value} {w' : World} {e : TypeId} (h : w'.heap[w.heap.size]? = some (.cells arr e (0, 0))) (hs : arr.size = n * sz) (hm : n ≤ maxLen) :
    (Cell.own id sz 0 n).Rep w' (upd β id (some w.heap.size)) ω [] (.slice (some ⟨w.heap.size, 0, none⟩) n n) :=
  .inr ⟨w.heap.size, n, upd_same _ _ _, by rw [Nat.zero_mul]; simp [Addr.add], Nat.le_refl _, hm, arr, e, _, h, by rw [hs, Nat.zero_add]⟩
theorem idx_lt {i j n sz : Nat} (hi : i < n) (hj : j < sz) : i * sz + j < n * sz := by
  have : i * sz + sz ≤ n * sz := by rw [← Nat.succ_mul]; exact Nat.mul_le_mul_right _ hi
  omega

theorem cellsNo_append {l : Nat} {xs ys : List Cell} (h1 : cellsNo l xs = true) (h2 : cellsNo l ys = true) : cellsNo l (xs ++ ys) = true := by
  induction xs with
  | nil => exact h2
  | cons x r ih =>
    simp only [cellsNo, Bool.and_eq_true] at h1
    simp only [List.cons_append, cellsNo, Bool.and_eq_true]
    exact ⟨h1.1, ih h1.2⟩
theorem cellsNo_flatten {l : Nat} {els : List (List Cell)} (h : ∀ cs ∈ els, cellsNo l cs = true) : cellsNo l els.flatten = true := by
  induction els with
  | nil => rfl
  | cons x r ih =>
    rw [List.flatten_cons]
    exact cellsNo_append (h x (by simp)) (ih (fun c hc => h c (by simp [hc])))

theorem buildSlice_sound (hT : TOk P T) {o : Oper} {t len : Nat} {parts : Array (Nat × Operand)} (ho : o.op = .buildSlice t len parts) (hop : (parts.toList.all fun x => opOk x.2) = true) {id : Nat} {g : Gd} {F : TV → Eds → Prop}
    (hd : dstOk σ g o.dst = true) (h : stBuildSlice T σ id g (T t) len parts.toList F) : OpSound P o σ id g F := by
  unfold stBuildSlice at h
  split at h
  · rename_i e hk
    split at h
    · rename_i els hok hf hb1 hb2 hels
      have hb1 := Nat.le_of_ble_eq_true hb1
      have hb2 := Nat.le_of_ble_eq_true hb2
      obtain ⟨ti, z, tf⟩ := ti_facts hT (okT_ne hok)
      have hpos := tf.pos
      have hlenb : len ≤ 16777216 := Nat.le_trans (Nat.le_mul_of_pos_right _ hpos) hb1
      have e47 : big47 = 140737488355328 := rfl
      split at h
      · -- nothing of the call's own goes into it
        rename_i ns p hl hall hpk
        have hl := Nat.eq_of_beq_eq_true hl
        obtain ⟨n1, _, n3⟩ := packL_spec hpk
        intro a w β ω hs hg
        obtain ⟨arr, hrun, hsz, hfl, hc⟩ := buildSlice_run hT ho hk hok hb1 hs hg hop hels hl hall
        simp only [Oper.wp, hrun, Oper.upon]
        have hfn : cellsNo id els.flatten = true := cellsNo_flatten (partsOf_no hf hels)
        have hs' := hs.alloc hf (.cells arr e) (newTag id g id) (blk := .arr (T e).size (T e).bytes len none (tabG (tabEl (T e).size ns len)) none) (fun ω' hω' hn => by
          refine ⟨hpos, by omega, by omega, .inr ⟨_, arr, upd_same _ _ _, hn, ⟨e, heap_alloc_new w _⟩, by omega, (fun c0 hc0 => by cases hc0), fun i hi j hj => ?_⟩⟩
          have hlt := idx_lt hi hj
          simp only [arrCell, tabG_get hi hj]
          have hlt' : i * (T e).size + j < els.flatten.length := by omega
          obtain ⟨hp, u, hu, hr⟩ := hc _ _ (List.getElem?_eq_getElem hlt')
          obtain ⟨x, hx, hcx⟩ := n3 _ _ (List.getElem?_eq_getElem hlt') (fun l => by rintro ⟨⟩)
          refine ⟨u, hu, ?_⟩
          rw [List.getD_eq_getElem?_getD, hx]
          have hcn : (els.flatten[i * (T e).size + j]).no id = true := cellsNo_mem hfn (List.getElem_mem hlt')
          have hr' := (hr.upd (x := some w.heap.size) hcn).plainMove (w' := w.alloc (.cells arr e)) (ω' := ω') (p' := []) ⟨fun b hb e => ⟨heap_alloc_old w _ b hb, by rw [hω' b hb]; exact e⟩, fun b n hl => hl.same (heap_alloc_old w _ b hl.lt)⟩ hp
          exact toNC_rep hcx hp hr')
        refine ⟨_, _, upd β id (some w.heap.size), upd ω w.heap.size (some [id]), h, ?_, Ext.alloc _ id, fun l hl => upd_other _ _ (by omega)⟩
        have hown : (TV.e (.c (.own id (T e).size 0 len))).Rep (w.alloc (.cells arr e)) (upd β id (some w.heap.size)) (upd ω w.heap.size (some [id])) a (.slice (some ⟨w.heap.size, 0, none⟩) len len) :=
          ⟨trivial, own_new (heap_alloc_new w _) hsz (by simp only [maxLen]; omega)⟩
        cases hdd : o.dst with
        | none => exact hs'
        | some d =>
          rw [hdd] at hd
          obtain ⟨h1, h2⟩ := dstOk_some hd
          exact hs'.putT hg h1 (tagNo_putH h2 _ _ (dstOk_tag hd)) hown
      · -- one slice of the call's own goes into it
        rename_i ns l k p hl hall hpk
        split at h
        · obtain ⟨hob, h⟩ := h
          have hl := Nat.eq_of_beq_eq_true hl
          obtain ⟨n1, n2, n3⟩ := packL_spec hpk
          obtain ⟨_, sz2, bw2, m, m', c2, g2, q1, q2, q3, q4⟩ := n2 l k rfl
          simp only [Nat.sub_zero] at q1 q2
          have hmm := q4 hob.out
          subst hmm
          intro a w β ω hs hg
          obtain ⟨arr, hrun, hsz, hfl, hc⟩ := buildSlice_run hT ho hk hok hb1 hs hg hop hels hl hall
          have hfn : cellsNo id els.flatten = true := cellsNo_flatten (partsOf_no hf hels)
          simp only [Oper.wp, hrun, Oper.upon]
          have hlid : l ≠ id := (lkH_no (Sat.fresh_hp hf) q3).1
          have hkl : k < els.flatten.length := (List.getElem?_eq_some_iff.1 q1).1
          obtain ⟨_, uk, huk, hrk⟩ := hc k _ q1
          have W : ∀ b, b < w.heap.size → (w.alloc (.cells arr e)).heap[b]? = w.heap[b]? := fun b hb => heap_alloc_old w _ b hb
          let ω' := upd (reroot [l] [id, k / (T e).size, k % (T e).size] ω) w.heap.size (some [id])
          have hω' : ∀ b, b < w.heap.size → ω' b = reroot [l] [id, k / (T e).size, k % (T e).size] ω b := fun b hb => upd_other _ _ (by omega)
          have hmv : Mv w ω (w.alloc (.cells arr e)) ω' := ⟨fun b hb e => ⟨W b hb, by rw [hω' b hb]; exact reroot_none e⟩, fun b n hl => hl.same (W b hl.lt)⟩
          have hs' : Sat { σ with hp := putH (delH σ.hp l) id (none, .arr (T e).size (T e).bytes len none (tabG (tabEl (T e).size ns len)) none) } a (w.alloc (.cells arr e)) (upd β id (some w.heap.size)) ω' := by
            refine hs.replace hf hmv (fun x ex hx hlx => ?_) (by rw [lkH_putH, if_pos rfl]) (fun _ => ?_) (fun b x q hb => ?_) (fun b q hb => ?_)
            · rw [lkH_putH, if_neg hx, lkH_delH] at hlx
              split at hlx
              · cases hlx
              · rename_i hxl
                exact ⟨hlx, fun b hb q hq => ⟨W b hb, by rw [hω' b hb]; exact reroot_miss hq (strip_ne (fun e => hxl e.symm))⟩⟩
            · refine ⟨hpos, by omega, by omega, .inr ⟨_, arr, upd_same _ _ _, upd_same _ _ _, ⟨e, heap_alloc_new w _⟩, by omega, (fun c0 hc0 => by cases hc0), fun i hi j hj => ?_⟩⟩
              have hlt := idx_lt hi hj
              simp only [arrCell, tabG_get hi hj]
              have hlt' : i * (T e).size + j < els.flatten.length := by omega
              by_cases hkk : i * (T e).size + j = k
              · rw [hkk]
                refine ⟨uk, huk, ?_⟩
                rw [List.getD_eq_getElem?_getD, q2]
                have ei : k / (T e).size = i := by rw [← hkk, Nat.mul_comm, Nat.mul_add_div hpos, Nat.div_eq_of_lt hj, Nat.add_zero]
                have ej : k % (T e).size = j := by rw [← hkk, Nat.mul_comm, Nat.mul_add_mod, Nat.mod_eq_of_lt hj]
                obtain ⟨z1, z2, z3, z4⟩ := hs.hp l none _ q3 trivial
                refine ⟨z1, z3, z2, ?_⟩
                rcases hrk with ⟨y1, _, y2, y3⟩ | ⟨b, c, y1, y2, y3, y4, y5⟩
                · exact .inl ⟨y2, y3⟩
                · rcases z4 with ⟨z5, _⟩ | ⟨b', arr2, z5, z6, z7, z8, z9, z10⟩
                  · rw [y1] at z5; cases z5
                  · rw [y1] at z5
                    injection z5 with z5
                    subst z5
                    have hbl := z7.lt
                    refine .inr ⟨b, c, arr2, by rw [y2, Nat.zero_mul]; simp [Addr.add], ?_, z7.same (W b hbl), ?_, y3, y4, fun x hx y hy => ?_⟩
                    · rw [hω' b hbl, reroot_hit (p := [l]) (r := []) z6, ei, ej]
                      rfl
                    · obtain ⟨ar3, e3, fr3, h3, h4⟩ := y5
                      obtain ⟨e4, h5⟩ := z7
                      rw [h5] at h3
                      injection h3 with h3
                      injection h3 with h3
                      rw [h3, h4, Nat.zero_add]
                    · obtain ⟨v, hv, hr⟩ := z10 x hx y hy
                      refine ⟨v, hv, NC.Rep.move (p := [l, x, y]) (p' := [id, i, j] ++ [x, y]) hmv.none (fun b hb q hq => ⟨W b hb, ?_⟩) hr⟩
                      rw [hω' b hb]
                      have := reroot_hit (p := [l]) (p' := [id, k / (T e).size, k % (T e).size]) (r := x :: y :: q) (by simpa using hq)
                      rw [this, ei, ej]
                      simp
              · obtain ⟨hp, u, hu, hr⟩ := hc _ _ (List.getElem?_eq_getElem hlt')
                obtain ⟨x, hx, hcx⟩ := n3 _ _ (List.getElem?_eq_getElem hlt') (fun l' hl' => by
                  injection hl' with hl'
                  injection hl' with h1 h2
                  rw [Nat.zero_add] at h2
                  exact hkk h2.symm)
                refine ⟨u, hu, ?_⟩
                rw [List.getD_eq_getElem?_getD, hx]
                have hcn : (els.flatten[i * (T e).size + j]).no id = true := cellsNo_mem hfn (List.getElem_mem hlt')
                have hr' := (hr.upd (x := some w.heap.size) hcn).plainMove (p' := []) hmv hp
                exact toNC_rep hcx hp hr'
            · rw [lkH_putH, lkH_delH]
              by_cases eb : b = w.heap.size
              · subst eb
                simp only [ω', upd_same, Option.some.injEq, List.cons.injEq] at hb
                exact ⟨_, if_pos hb.1.symm⟩
              · have : reroot [l] [id, k / (T e).size, k % (T e).size] ω b = some (x :: q) := by rw [← hb]; exact (upd_other _ _ eb).symm
                by_cases hx : x = id
                · exact ⟨_, if_pos hx⟩
                · rw [if_neg hx]
                  rcases reroot_some this with ⟨r, h1, h2⟩ | ⟨h1, h2⟩
                  · simp only [List.cons_append, List.cons.injEq] at h2
                    exact absurd h2.1 hx
                  · have hxl : x ≠ l := by
                      rintro rfl
                      simp [strip] at h2
                    rw [if_neg hxl]
                    exact hs.cl b x q h1
            · by_cases eb : b = w.heap.size
              · subst eb; simp
              · have : reroot [l] [id, k / (T e).size, k % (T e).size] ω b = some q := by rw [← hb]; exact (upd_other _ _ eb).symm
                have : b < w.heap.size := by
                  rcases reroot_some this with ⟨r, h1, h2⟩ | ⟨h1, h2⟩
                  · exact hs.lt b _ h1
                  · exact hs.lt b _ h1
                simp
                omega
          have hext : Ext w ω (w.alloc (.cells arr e)) ω' := by
            refine ⟨rfl, rfl, rfl, by simp, fun b hb hn => ⟨W b hb, ?_⟩, fun b n hl => hl.same (W b hl.lt), fun b hb => ?_⟩
            · rw [hω' b hb]
              rcases hn with hn | hn
              · rw [reroot_none hn, hn]
              · rw [reroot_miss hn rfl, hn]
            · by_cases eb : b = w.heap.size
              · subst eb; simp only [ω', upd_same] at hb; cases hb
              · have : reroot [l] [id, k / (T e).size, k % (T e).size] ω b = some [] := by rw [← hb]; exact (upd_other _ _ eb).symm
                rcases reroot_some this with ⟨r, h1, h2⟩ | ⟨h1, h2⟩
                · simp at h2
                · exact h1
          refine ⟨_, _, upd β id (some w.heap.size), ω', h, ?_, hext, fun l hl => upd_other _ _ (by omega)⟩
          have hown : (TV.e (.c (.own id (T e).size 0 len))).Rep (w.alloc (.cells arr e)) (upd β id (some w.heap.size)) ω' a (.slice (some ⟨w.heap.size, 0, none⟩) len len) :=
            ⟨trivial, own_new (heap_alloc_new w _) hsz (by simp only [maxLen]; omega)⟩
          cases hdd : o.dst with
          | none => exact hs'
          | some d =>
            rw [hdd] at hd
            obtain ⟨h1, h2⟩ := dstOk_some hd
            exact hs'.putT (g := none) trivial h1 (tagNo_putH (tagNo_delH h2 _) _ _ trivial) hown
        · exact h.elim
      · exact h.elim
    · exact h.elim
  · exact h.elim
end
end Go.Ice
end

section
set_option linter.unusedVariables false
set_option linter.unusedSimpArgs false
namespace Go.Ice
section
variable {P : Program} {T : Nat → TI} {σ : AS} {a : Act} {w : World} {β : Nat → Option Nat} {ω : Nat → Option (List Nat)}

/-! ### append -/
def appA (n : Nat) (g h : Nat → Nat → NC) : Nat → Nat → NC := fun i j => match Nat.blt i n with
  | true => g i j
  | false => h (i - n) j
/-- Where an owner stands behind an append. -/
def appTau (dl sl : Option Nat) (inPlace : Bool) (id n off m : Nat) : List Nat → Option (List Nat)
  | [] => some []
  | k :: q => if some k = dl then (match q with
      | [] => if inPlace then some [id] else none
      | x :: r => some (id :: x :: r))
    else if some k = sl then (match q with
      | [] => none
      | i :: r => if off ≤ i ∧ i < off + m then some (id :: (n + (i - off)) :: r) else none)
    else some (k :: q)
def thru (τ : List Nat → Option (List Nat)) (ω : Nat → Option (List Nat)) (b : Nat) : Option (List Nat) := (ω b).bind τ
theorem thru_none {τ : List Nat → Option (List Nat)} {b : Nat} (h : ω b = none) : thru τ ω b = none := by simp [thru, h]
theorem thru_of {τ : List Nat → Option (List Nat)} {b : Nat} {q r : List Nat} (h : ω b = some q) (ht : τ q = some r) : thru τ ω b = some r := by simp [thru, h, ht]
theorem thru_some {τ : List Nat → Option (List Nat)} {b : Nat} {r : List Nat} (h : thru τ ω b = some r) : ∃ q, ω b = some q ∧ τ q = some r := by
  unfold thru at h
  cases hω : ω b with
  | none => rw [hω] at h; cases h
  | some q => rw [hω] at h; exact ⟨q, rfl, h⟩

def srcRep (w : World) (ω : Nat → Option (List Nat)) (sl : Option Nat) (i j : Nat) (x : NC) (u : Value) : Prop :=
  match sl with
  | none => ∃ y, x = .f y ∧ y.Rep w (fun b => ω b = none) u
  | some l2 => x.Rep w ω [l2, i, j] u
/-- What is appended: of whom, how many, the cells. -/
structure SrcOk (w : World) (β : Nat → Option Nat) (ω : Nat → Option (List Nat)) (σ : AS) (sl : Option Nat) (off m sz : Nat) (h : Nat → Nat → NC) (news : List Value) : Prop where
  len : news.length = m * sz
  own : ∀ l2, sl = some l2 → ∃ e, lkH σ.hp l2 = some e
  rep : ∀ i, i < m → ∀ j, j < sz → ∃ u, news[i * sz + j]? = some u ∧ u.oneCell' = true ∧ srcRep w ω sl (off + i) j (h i j) u
theorem SrcOk.one {sl : Option Nat} {off m sz : Nat} {h : Nat → Nat → NC} {news : List Value} (hs : SrcOk w β ω σ sl off m sz h news) (hz : 0 < sz) : ∀ u ∈ news, u.oneCell' = true := by
  intro u hu
  obtain ⟨k, hk⟩ := List.getElem?_of_mem hu
  have hlt : k < m * sz := by rw [← hs.len]; exact (List.getElem?_eq_some_iff.1 hk).1
  have h1 : k / sz < m := (Nat.div_lt_iff_lt_mul hz).2 hlt
  have h2 : k % sz < sz := Nat.mod_lt _ hz
  obtain ⟨v, hv, ho, _⟩ := hs.rep (k / sz) h1 (k % sz) h2
  rw [show k / sz * sz + k % sz = k from by rw [Nat.mul_comm]; exact Nat.div_add_mod k sz, hk] at hv
  injection hv with hv
  rw [hv]
  exact ho

/-- Dst: a row of ours, or nothing yet. -/
def DstOk (w : World) (β : Nat → Option Nat) (ω : Nat → Option (List Nat)) (σ : AS) (dl : Option Nat) (n sz : Nat) (g : Nat → Nat → NC) (v : Value) : Prop :=
  match dl with
  | none => n = 0 ∧ v = .slice none 0 0
  | some l => (∃ bw c, lkH σ.hp l = some (none, .arr sz bw n c g none)) ∧ ((n = 0 ∧ v = .slice none 0 0) ∨ ∃ b c arr, β l = some b ∧ ω b = some [l] ∧ Row w b arr ∧ arr.size = c * sz ∧ n ≤ c ∧ c ≤ maxLen ∧ v = .slice (some ⟨b, 0, none⟩) n c ∧
      ∀ i, i < n → ∀ j, j < sz → ∃ u, arr[i * sz + j]? = some u ∧ (g i j).Rep w ω [l, i, j] u)

def apEds (dl sl : Option Nat) (id sz bw k : Nat) (g : Nat → Nat → NC) : Eds :=
  (match dl with
   | none => []
   | some l => [(l, none)]) ++ (match sl with
   | none => []
   | some l => [(l, none)]) ++ [(id, some (.arr sz bw k none g none))]
theorem apEds_lk (dl sl : Option Nat) (id sz bw k : Nat) (g : Nat → Nat → NC) (hp : List (Nat × HE)) (x : Nat) :
    lkH (edH id none hp (apEds dl sl id sz bw k g)) x = if x = id then some (none, .arr sz bw k none g none) else if some x = dl ∨ some x = sl then none else lkH hp x := by
  unfold apEds
  cases dl with
  | none =>
    cases sl with
    | none => simp [edH, lkH_putH, newTag]
    | some l2 => simp only [List.nil_append, List.cons_append, edH, lkH_putH, newTag, lkH_delH, Option.some.injEq]; simp
  | some l =>
    cases sl with
    | none => simp only [List.nil_append, List.append_nil, List.cons_append, edH, lkH_putH, newTag, lkH_delH, Option.some.injEq]; simp
    | some l2 =>
      simp only [List.nil_append, List.append_nil, List.cons_append, edH, lkH_putH, newTag, lkH_delH, Option.some.injEq]
      by_cases h1 : x = id
      · simp [h1]
      · by_cases h2 : x = l2
        · simp [h1, h2]
        · by_cases h3 : x = l <;> simp [h1, h2, h3]
theorem edH_tag {d id : Nat} : ∀ {es : Eds} {hp : List (Nat × HE)}, tagNo d hp = true → tagNo d (edH id none hp es) = true
  | [], hp, h => h
  | (l, some b) :: r, hp, h => edH_tag (es := r) (tagNo_putH h _ _ trivial)
  | (l, none) :: r, hp, h => edH_tag (es := r) (tagNo_delH h _)

/-- What all three ways of an append have in common: the new row stands in block B of w'. -/
theorem append_sat (hs : Sat σ a w β ω) {dl sl : Option Nat} {id n off m sz bw : Nat} {g h : Nat → Nat → NC} (hf : σ.fresh id = true) (hne : ∀ l, dl = some l → sl ≠ some l) {w' : World} {ip : Bool} {B : Option Nat}
    (hsrc : ∀ l2, sl = some l2 → ∃ e, lkH σ.hp l2 = some e) (hmv : ∀ b, b < w.heap.size → (∀ l, ω b ≠ some [l] ∨ dl ≠ some l) → w'.heap[b]? = w.heap[b]?) (hlen : ∀ b n, Len w b n → Len w' b n) (hsize : w.heap.size ≤ w'.heap.size)
    (hrest : w'.os = w.os ∧ w'.tape = w.tape ∧ w'.output = w.output)
    {ω' : Nat → Option (List Nat)} (hω' : ∀ b, b < w.heap.size → ω' b = thru (appTau dl sl ip id n off m) ω b) (hωn : ∀ b, w.heap.size ≤ b → ∀ p, ω' b = some p → p = [id] ∧ b < w'.heap.size)
    (hblk : (Blk.arr sz bw (n + m) none (appA n g h) none).Rep w' (upd β id B) ω' id) :
    Sat { σ with hp := edH id none σ.hp (apEds dl sl id sz bw (n + m) (appA n g h)) } a w' (upd β id B) ω' ∧ Ext w ω w' ω' := by
  have hmv' : Mv w ω w' ω' := ⟨fun b hb e => ⟨hmv b hb (fun l => .inl (by rw [e]; rintro ⟨⟩)), by rw [hω' b hb]; exact thru_none e⟩, hlen⟩
  have other : ∀ k, some k ≠ dl → some k ≠ sl → ∀ b, b < w.heap.size → ∀ q, ω b = some (k :: q) → w'.heap[b]? = w.heap[b]? ∧ ω' b = some (k :: q) := fun k h1 h2 b hb q hq => by
    refine ⟨hmv b hb (fun l => ?_), by rw [hω' b hb]; exact thru_of hq (by simp [appTau, h1, h2])⟩
    by_cases e : dl = some l
    · left
      rw [hq]
      intro e2
      injection e2 with e2
      injection e2 with e2
      subst e2
      exact h1 e.symm
    · exact .inr e
  refine ⟨hs.replace hf hmv' (fun k e hk hlk => ?_) (g := none) (blk := .arr sz bw (n + m) none (appA n g h) none) (by rw [apEds_lk, if_pos rfl]) (fun _ => hblk) (fun b k p hb => ?_) (fun b p hb => ?_), ?_⟩
  · rw [apEds_lk, if_neg hk] at hlk
    split at hlk
    · cases hlk
    · rename_i hn
      exact ⟨hlk, other k (fun e => hn (.inl e)) (fun e => hn (.inr e))⟩
  · rw [apEds_lk]
    by_cases hk : k = id
    · exact ⟨_, if_pos hk⟩
    · rw [if_neg hk]
      by_cases hlt : b < w.heap.size
      · rw [hω' b hlt] at hb
        obtain ⟨q, hq, ht⟩ := thru_some hb
        cases q with
        | nil => simp [appTau] at ht
        | cons x r =>
          simp only [appTau] at ht
          by_cases h1 : some x = dl
          · rw [if_pos h1] at ht
            cases r with
            | nil =>
              simp only at ht
              split at ht
              · simp only [Option.some.injEq, List.cons.injEq] at ht; exact absurd ht.1.symm hk
              · cases ht
            | cons y r => simp only [Option.some.injEq, List.cons.injEq] at ht; exact absurd ht.1.symm hk
          · rw [if_neg h1] at ht
            by_cases h2 : some x = sl
            · rw [if_pos h2] at ht
              cases r with
              | nil => cases ht
              | cons y r =>
                simp only at ht
                split at ht
                · simp only [Option.some.injEq, List.cons.injEq] at ht; exact absurd ht.1.symm hk
                · cases ht
            · rw [if_neg h2] at ht
              simp only [Option.some.injEq, List.cons.injEq] at ht
              obtain ⟨e1, e2⟩ := ht
              subst e1
              rw [if_neg (by rintro (e | e); exact h1 e; exact h2 e)]
              exact hs.cl b x r hq
      · have := (hωn b (by omega) _ hb).1
        simp only [List.cons.injEq] at this
        exact absurd this.1 hk
  · by_cases hlt : b < w.heap.size
    · omega
    · exact (hωn b (by omega) _ hb).2
  · refine ⟨hrest.1, hrest.2.1, hrest.2.2, hsize, fun b hb hn => ?_, hlen, fun b hb => ?_⟩
    · rcases hn with hn | hn
      · exact ⟨(hmv'.none b hb hn).1, by rw [(hmv'.none b hb hn).2, hn]⟩
      · exact ⟨hmv b hb (fun l => .inl (by rw [hn]; rintro ⟨⟩)), by rw [hω' b hb, hn]; exact thru_of hn rfl⟩
    · by_cases hlt : b < w.heap.size
      · rw [hω' b hlt] at hb
        obtain ⟨q, hq, ht⟩ := thru_some hb
        cases q with
        | nil => exact hq
        | cons x r =>
          exfalso
          simp only [appTau] at ht
          split at ht
          · cases r with
            | nil => simp only at ht; split at ht <;> simp at ht
            | cons y r => simp at ht
          · split at ht
            · cases r with
              | nil => cases ht
              | cons y r => simp only at ht; split at ht <;> simp at ht
            · simp at ht
      · have := (hωn b (by omega) _ hb).1
        cases this
end
end Go.Ice
end

section
set_option linter.unusedVariables false
set_option linter.unusedSimpArgs false
namespace Go.Ice
section
variable {P : Program} {T : Nat → TI} {σ : AS} {a : Act} {w : World} {β : Nat → Option Nat} {ω : Nat → Option (List Nat)}

theorem app_old {w' : World} {ω' : Nat → Option (List Nat)} {l id n off m i j : Nat} {sl : Option Nat} {ip : Bool} {x : NC} {u : Value}
    (hmv : ∀ b, b < w.heap.size → (∀ k, ω b ≠ some [k] ∨ some l ≠ some k) → w'.heap[b]? = w.heap[b]?) (hω' : ∀ b, b < w.heap.size → ω' b = thru (appTau (some l) sl ip id n off m) ω b)
    (h : x.Rep w ω [l, i, j] u) : x.Rep w' ω' [id, i, j] u := by
  refine NC.Rep.move (p := [l, i, j]) (fun b hb e => ⟨hmv b hb (fun k => .inl (by rw [e]; rintro ⟨⟩)), by rw [hω' b hb]; exact thru_none e⟩) (fun b hb q hq => ⟨hmv b hb (fun k => .inl (by rw [hq]; simp)), ?_⟩) h
  rw [hω' b hb]
  exact thru_of hq (by simp [appTau])
theorem app_new {w' : World} {ω' : Nat → Option (List Nat)} {dl sl : Option Nat} {id n off m i j : Nat} {ip : Bool} {x : NC} {u : Value} (hne : ∀ l, dl = some l → sl ≠ some l) (hi : i < m)
    (hmv : ∀ b, b < w.heap.size → (∀ k, ω b ≠ some [k] ∨ dl ≠ some k) → w'.heap[b]? = w.heap[b]?) (hω' : ∀ b, b < w.heap.size → ω' b = thru (appTau dl sl ip id n off m) ω b)
    (h : srcRep w ω sl (off + i) j x u) : x.Rep w' ω' [id, n + i, j] u := by
  unfold srcRep at h
  cases sl with
  | none =>
    obtain ⟨y, rfl, hy⟩ := h
    exact FC.Rep.mono (fun b hb e => ⟨hmv b hb (fun k => .inl (by rw [e]; rintro ⟨⟩)), by rw [hω' b hb]; exact thru_none e⟩) hy
  | some l2 =>
    refine NC.Rep.move (p := [l2, off + i, j]) (fun b hb e => ⟨hmv b hb (fun k => .inl (by rw [e]; rintro ⟨⟩)), by rw [hω' b hb]; exact thru_none e⟩) (fun b hb q hq => ⟨hmv b hb (fun k => .inl (by rw [hq]; simp)), ?_⟩) h
    rw [hω' b hb]
    refine thru_of hq ?_
    have h1 : ¬ some l2 = dl := fun e => hne l2 e.symm rfl
    simp only [List.cons_append, List.nil_append, appTau, if_neg h1, if_true]
    rw [if_pos ⟨by omega, by omega⟩]
    congr 3
    omega
theorem appA_lt {n : Nat} {g h : Nat → Nat → NC} {i j : Nat} (hi : i < n) : appA n g h i j = g i j := by
  have : Nat.blt i n = true := by simpa using hi
  simp [appA, this]
theorem appA_ge {n : Nat} {g h : Nat → Nat → NC} {i j : Nat} (hi : n ≤ i) : appA n g h i j = h (i - n) j := by
  have : Nat.blt i n = false := by
    cases hb : Nat.blt i n with
    | false => rfl
    | true => have : i < n := by simpa using hb
              omega
  simp [appA, this]

/-- There is no room, or there is nothing yet: a new row. -/
theorem append_grow (hs : Sat σ a w β ω) {dl sl : Option Nat} {id n off m sz bw cap : Nat} {g h : Nat → Nat → NC} {e : TypeId} (hz : 0 < sz) (hf : σ.fresh id = true) (hne : ∀ l, dl = some l → sl ≠ some l)
    {olds news rest : List Value} (ho : olds.length = n * sz) (hold : ∀ i, i < n → ∀ j, j < sz → ∃ u l, dl = some l ∧ olds[i * sz + j]? = some u ∧ (g i j).Rep w ω [l, i, j] u)
    (hsrc : SrcOk w β ω σ sl off m sz h news) (hb : (n + m) * bw ≤ big47) (hn : n + m ≤ big47) (hrest : rest.length = (cap - (n + m)) * sz) (hcap : n + m ≤ cap) (hcm : cap ≤ maxLen)
    {arr : Array Value} (harr : arr.toList = olds ++ news ++ rest) :
    let w' := w.drew.alloc (.cells arr e)
    let ω' := upd (thru (appTau dl sl false id n off m) ω) w.heap.size (some [id])
    Sat { σ with hp := edH id none σ.hp (apEds dl sl id sz bw (n + m) (appA n g h)) } a w' (upd β id (some w.heap.size)) ω' ∧ Ext w ω w' ω' ∧
      (Cell.own id sz 0 (n + m)).Rep w' (upd β id (some w.heap.size)) ω' [] (.slice (some ⟨w.heap.size, 0, none⟩) (n + m) cap) := by
  intro w' ω'
  have hsz : arr.size = cap * sz := by
    rw [← Array.length_toList, harr]
    simp only [List.length_append, ho, hsrc.len, hrest, ← Nat.add_mul]
    congr 1
    omega
  have W : ∀ b, b < w.heap.size → w'.heap[b]? = w.heap[b]? := fun b hb => heap_alloc_old w.drew _ b hb
  have hω' : ∀ b, b < w.heap.size → ω' b = thru (appTau dl sl false id n off m) ω b := fun b hb => upd_other _ _ (by omega)
  have hrow : Row w' w.heap.size arr := ⟨e, heap_alloc_new w.drew _⟩
  have big : ∀ k, k < n + m → ∀ j, j < sz → ∃ u, arr[k * sz + j]? = some u ∧ (appA n g h k j).Rep w' ω' [id, k, j] u := by
    intro k hk j hj
    rw [← Array.getElem?_toList, harr]
    by_cases hkn : k < n
    · obtain ⟨u, l, hl, hu, hr⟩ := hold k hkn j hj
      subst hl
      have hlt := idx_lt hkn hj
      refine ⟨u, by rw [List.append_assoc, List.getElem?_append_left (by rw [ho]; exact hlt)]; exact hu, ?_⟩
      rw [appA_lt hkn]
      exact app_old (fun b hb _ => W b hb) hω' hr
    · obtain ⟨u, hu, _, hr⟩ := hsrc.rep (k - n) (by omega) j hj
      have e1 : k * sz + j = n * sz + ((k - n) * sz + j) := by
        have : k * sz = n * sz + (k - n) * sz := by rw [← Nat.add_mul]; congr 1; omega
        omega
      have hlt := idx_lt (show k - n < m by omega) hj
      refine ⟨u, ?_, ?_⟩
      · rw [List.append_assoc, e1, List.getElem?_append_right (by rw [ho]; omega), ho, Nat.add_sub_cancel_left, List.getElem?_append_left (by rw [hsrc.len]; exact hlt)]
        exact hu
      · rw [appA_ge (by omega)]
        have := app_new hne (show k - n < m by omega) (fun b hb _ => W b hb) hω' hr
        rwa [show n + (k - n) = k by omega] at this
  obtain ⟨h1, h2⟩ := append_sat (w' := w') (ip := false) (B := some w.heap.size) (ω' := ω') hs hf hne hsrc.own (fun b hb _ => W b hb) (fun b n hl => hl.same (W b hl.lt)) (by simp [w']) ⟨rfl, rfl, rfl⟩ hω'
    (fun b hb p hp => by
      by_cases eb : b = w.heap.size
      · subst eb
        simp only [ω', upd_same, Option.some.injEq] at hp
        exact ⟨hp.symm, by simp [w']⟩
      · have : thru (appTau dl sl false id n off m) ω b = some p := by rw [← hp]; exact (upd_other _ _ eb).symm
        obtain ⟨q, hq, _⟩ := thru_some this
        have := hs.lt b q hq
        omega)
    (⟨hz, hb, hn, .inr ⟨w.heap.size, arr, upd_same _ _ _, upd_same _ _ _, hrow, by rw [hsz]; exact Nat.mul_le_mul_right _ hcap, (fun c0 hc0 => by cases hc0), fun k hk j hj => big k hk j hj⟩⟩)
  refine ⟨h1, h2, .inr ⟨w.heap.size, cap, upd_same _ _ _, by rw [Nat.zero_mul]; simp [Addr.add], hcap, hcm, arr, e, _, heap_alloc_new w.drew _, by rw [hsz, Nat.zero_add]⟩⟩

/-- There is room: the row itself. -/
theorem append_room (hs : Sat σ a w β ω) {l : Nat} {sl : Option Nat} {id n off m sz bw c b : Nat} {g h : Nat → Nat → NC} (hz : 0 < sz) (hf : σ.fresh id = true) (hne : ∀ k, some l = some k → sl ≠ some k)
    {news : List Value} {arr : Array Value} (hβ : β l = some b) (hω : ω b = some [l]) (hrow : Row w b arr) (hasz : arr.size = c * sz) (hcm : c ≤ maxLen)
    (hold : ∀ i, i < n → ∀ j, j < sz → ∃ u, arr[i * sz + j]? = some u ∧ (g i j).Rep w ω [l, i, j] u)
    (hsrc : SrcOk w β ω σ sl off m sz h news) (hb : (n + m) * bw ≤ big47) (hn : n + m ≤ big47) (hroom : n + m ≤ c) :
    let arr' := (arr.toList.take (n * sz) ++ news ++ arr.toList.drop (n * sz + news.length)).toArray
    let w' := w.setRow b arr'
    let ω' := thru (appTau (some l) sl true id n off m) ω
    Sat { σ with hp := edH id none σ.hp (apEds (some l) sl id sz bw (n + m) (appA n g h)) } a w' (upd β id (some b)) ω' ∧ Ext w ω w' ω' ∧
      (Cell.own id sz 0 (n + m)).Rep w' (upd β id (some b)) ω' [] (.slice (some ⟨b, 0, none⟩) (n + m) c) := by
  intro arr' w' ω'
  have hfit : n * sz + news.length ≤ arr.size := by rw [hsrc.len, hasz, ← Nat.add_mul]; exact Nat.mul_le_mul_right _ hroom
  have hsz : arr'.size = arr.size := by
    simp only [arr', List.size_toArray, List.length_append, List.length_take, List.length_drop, Array.length_toList]
    omega
  have W : ∀ x, x < w.heap.size → (∀ k, ω x ≠ some [k] ∨ some l ≠ some k) → w'.heap[x]? = w.heap[x]? := fun x hx hn => by
    refine setRow_other (fun e => ?_)
    subst e
    rcases hn l with h | h
    · exact h hω
    · exact h rfl
  have hrow' : Row w' b arr' := hrow.set
  have hω' : ∀ x, x < w.heap.size → ω' x = thru (appTau (some l) sl true id n off m) ω x := fun _ _ => rfl
  have get : ∀ k, arr'[k]? = if k < n * sz then arr[k]? else if k < n * sz + news.length then news[k - n * sz]? else arr[k]? := fun k => by
    have := splice_get arr.toList news (n * sz) k (by rw [Array.length_toList]; exact hfit)
    simp only [Array.getElem?_toList] at this
    simpa [arr'] using this
  have big : ∀ k, k < n + m → ∀ j, j < sz → ∃ u, arr'[k * sz + j]? = some u ∧ (appA n g h k j).Rep w' ω' [id, k, j] u := by
    intro k hk j hj
    rw [get]
    by_cases hkn : k < n
    · obtain ⟨u, hu, hr⟩ := hold k hkn j hj
      have hlt := idx_lt hkn hj
      refine ⟨u, by rw [if_pos hlt]; exact hu, ?_⟩
      rw [appA_lt hkn]
      exact app_old W hω' hr
    · obtain ⟨u, hu, _, hr⟩ := hsrc.rep (k - n) (by omega) j hj
      have e1 : k * sz + j = n * sz + ((k - n) * sz + j) := by
        have : k * sz = n * sz + (k - n) * sz := by rw [← Nat.add_mul]; congr 1; omega
        omega
      have hlt := idx_lt (show k - n < m by omega) hj
      refine ⟨u, ?_, ?_⟩
      · rw [if_neg (by omega), if_pos (by rw [hsrc.len]; omega), e1, Nat.add_sub_cancel_left]
        exact hu
      · rw [appA_ge (by omega)]
        have := app_new hne (show k - n < m by omega) W hω' hr
        rwa [show n + (k - n) = k by omega] at this
  obtain ⟨h1, h2⟩ := append_sat (w' := w') (ip := true) (B := some b) (ω' := ω') hs hf hne hsrc.own W (fun x n hl => hl.set hrow hsz) (by rw [setRow_size]; exact Nat.le_refl _) ⟨rfl, rfl, rfl⟩ hω'
    (fun x hx p hp => by
      obtain ⟨q, hq, _⟩ := thru_some hp
      have := hs.lt x q hq
      omega)
    (⟨hz, hb, hn, .inr ⟨b, arr', upd_same _ _ _, thru_of hω (by simp [appTau]), hrow', by rw [hsz, hasz]; exact Nat.mul_le_mul_right _ hroom, (fun c0 hc0 => by cases hc0), fun k hk j hj => big k hk j hj⟩⟩)
  refine ⟨h1, h2, .inr ⟨b, c, upd_same _ _ _, by rw [Nat.zero_mul]; simp [Addr.add], hroom, hcm, ?_⟩⟩
  obtain ⟨e, he⟩ := hrow'
  exact ⟨arr', e, _, he, by rw [hsz, hasz, Nat.zero_add]⟩
end
end Go.Ice
end

section
set_option linter.unusedVariables false
set_option linter.unusedSimpArgs false
namespace Go.Ice

/-! ### One state seen as another: calls, returns, rounds of loops -/
def FC.Eqv : FC → FC → Prop
  | _, .any => True
  | .int k n, .int k' n' => k = k' ∧ n = n'
  | .bool b, .bool b' => b = b'
  | .str s, .str s' => s = s'
  | .sl sz bw n g, .sl sz' bw' n' g' => sz = sz' ∧ bw = bw' ∧ n = n' ∧ ∀ i, i < n → ∀ j, j < sz → (g i j).Eqv (g' i j)
  | _, _ => False
def NC.Eqv : NC → NC → Prop
  | .f x, .f y => x.Eqv y
  | .uq sz bw n g, .uq sz' bw' n' g' => sz = sz' ∧ bw = bw' ∧ n = n' ∧ ∀ i, i < n → ∀ j, j < sz → (g i j).Eqv (g' i j)
  | _, _ => False
theorem FC.Rep.eqv {w : World} {fr : Nat → Prop} : ∀ {x y : FC} {v : Value}, x.Eqv y → x.Rep w fr v → y.Rep w fr v := by
  intro x
  induction x with
  | any => intro y v he h; cases y <;> first | exact h | exact he.elim
  | int k n =>
    intro y v he h
    cases y <;> first
      | exact FC.Rep.one h
      | (obtain ⟨rfl, rfl⟩ := he; exact h)
      | exact he.elim
  | bool b =>
    intro y v he h
    cases y <;> first
      | exact FC.Rep.one h
      | (have he : b = _ := he; subst he; exact h)
      | exact he.elim
  | str s =>
    intro y v he h
    cases y <;> first
      | exact FC.Rep.one h
      | (have he : s = _ := he; subst he; exact h)
      | exact he.elim
  | sl sz bw n g ih =>
    intro y v he h
    cases y with
    | sl sz' bw' n' g' =>
      obtain ⟨rfl, rfl, rfl, he⟩ := he
      obtain ⟨a, c, hv, hc, hb, hn, hz, hx⟩ := h
      refine ⟨a, c, hv, hc, hb, hn, hz, fun h0 => ?_⟩
      obtain ⟨ad, h1, h2, h3, h4⟩ := hx h0
      refine ⟨ad, h1, h2, h3, fun i hi j hj => ?_⟩
      obtain ⟨u, hu, hr⟩ := h4 i hi j hj
      exact ⟨u, hu, ih i j (he i hi j hj) hr⟩
    | any => exact FC.Rep.one h
    | _ => exact he.elim
theorem NC.Rep.eqv {w : World} {ω : Nat → Option (List Nat)} : ∀ {x y : NC} {p : List Nat} {v : Value}, x.Eqv y → x.Rep w ω p v → y.Rep w ω p v := by
  intro x
  induction x with
  | f x => intro y p v he h; cases y with
    | f y => exact FC.Rep.eqv he h
    | uq => exact he.elim
  | uq sz bw n g ih =>
    intro y p v he h
    cases y with
    | f y => exact he.elim
    | uq sz' bw' n' g' =>
      obtain ⟨rfl, rfl, rfl, he⟩ := he
      obtain ⟨hz, hn, hnb, h⟩ := h
      refine ⟨hz, hn, hnb, ?_⟩
      rcases h with h | ⟨b, c, arr, h1, h2, h3, h4, h5, h6, h7⟩
      · exact .inl h
      · refine .inr ⟨b, c, arr, h1, h2, h3, h4, h5, h6, fun i hi j hj => ?_⟩
        obtain ⟨u, hu, hr⟩ := h7 i hi j hj
        exact ⟨u, hu, ih i j (he i hi j hj) hr⟩

/-! ### Numbers of the one for numbers of the other -/
abbrev Pr := List (Nat × Nat)
def invP : Pr → Nat → Option Nat
  | [], _ => none
  | (i, l) :: r, k => match Nat.beq l k with
    | true => some i
    | false => invP r k
def hasK : Pr → Nat → Bool
  | [], _ => false
  | (i, _) :: r, k => match Nat.beq i k with
    | true => true
    | false => hasK r k
def hasV : Pr → Nat → Bool
  | [], _ => false
  | (_, l) :: r, k => match Nat.beq l k with
    | true => true
    | false => hasV r k
def prOk : Pr → Bool
  | [] => true
  | (i, l) :: r => !(hasK r i) && !(hasV r l) && prOk r
theorem lkH_hasK {m : Pr} {i l : Nat} (h : lkH m i = some l) : hasK m i = true := by
  induction m with
  | nil => cases h
  | cons x r ih =>
    obtain ⟨k, v⟩ := x
    simp only [lkH] at h
    simp only [hasK]
    cases hb : Nat.beq k i with
    | true => rfl
    | false => rw [hb] at h; exact ih h
theorem lkH_hasV {m : Pr} {i l : Nat} (h : lkH m i = some l) : hasV m l = true := by
  induction m with
  | nil => cases h
  | cons x r ih =>
    obtain ⟨k, v⟩ := x
    simp only [lkH] at h
    simp only [hasV]
    cases hb : Nat.beq k i with
    | true => rw [hb] at h; injection h with h; subst h; simp
    | false =>
      rw [hb] at h
      cases Nat.beq v l with
      | true => rfl
      | false => exact ih h
theorem invP_hasV {m : Pr} {i l : Nat} (h : invP m l = some i) : hasV m l = true ∧ hasK m i = true := by
  induction m with
  | nil => cases h
  | cons x r ih =>
    obtain ⟨k, v⟩ := x
    simp only [invP] at h
    simp only [hasV, hasK]
    cases hb : Nat.beq v l with
    | true => rw [hb] at h; injection h with h; subst h; simp
    | false =>
      rw [hb] at h
      obtain ⟨h1, h2⟩ := ih h
      refine ⟨h1, ?_⟩
      cases Nat.beq k i with
      | true => rfl
      | false => exact h2
theorem invP_of {m : Pr} (hm : prOk m = true) {i l : Nat} (h : lkH m i = some l) : invP m l = some i := by
  induction m with
  | nil => cases h
  | cons x r ih =>
    obtain ⟨k, v⟩ := x
    simp only [prOk, Bool.and_eq_true] at hm
    simp only [lkH] at h
    simp only [invP]
    cases hb : Nat.beq k i with
    | true =>
      rw [hb] at h
      injection h with h
      subst h
      simp [Nat.eq_of_beq_eq_true hb]
    | false =>
      rw [hb] at h
      cases hv : Nat.beq v l with
      | true =>
        have e := Nat.eq_of_beq_eq_true hv
        subst e
        rw [lkH_hasV h] at hm
        cases hm.1.2
      | false => exact ih hm.2 h
theorem lkH_of_inv {m : Pr} (hm : prOk m = true) {i l : Nat} (h : invP m l = some i) : lkH m i = some l := by
  induction m with
  | nil => cases h
  | cons x r ih =>
    obtain ⟨k, v⟩ := x
    simp only [prOk, Bool.and_eq_true] at hm
    simp only [invP] at h
    simp only [lkH]
    cases hb : Nat.beq v l with
    | true =>
      rw [hb] at h
      injection h with h
      subst h
      simp [Nat.eq_of_beq_eq_true hb]
    | false =>
      rw [hb] at h
      cases hv : Nat.beq k i with
      | true =>
        have e := Nat.eq_of_beq_eq_true hv
        subst e
        rw [(invP_hasV h).2] at hm
        cases hm.1.1
      | false => exact ih hm.2 h

/-- Cells that the blocks of one state hold, seen as cells over the numbers of another. ln: what is only lent, or written no more. -/
def mtC (hp : List (Nat × HE)) (m : Pr) (ln : List Nat) : Cell → Cell → Prop
  | _, .nc (.f .any) => True
  | .nc x, .nc y => x.Eqv y
  | .nil, .nil => True
  | .nil, .nc (.f (.sl sz _ n _)) => 0 < sz ∧ n = 0
  | .nil, .own l _ off n => lkH m l = none ∧ off = 0 ∧ n = 0
  | .own l sz off n, .own l' sz' off' n' => lkH m l' = some l ∧ sz = sz' ∧ off = off' ∧ n = n'
  | .own l sz off n, .nc (.f y) => match lkH hp l with
    | some (none, .arr sz' bw n0 _ g none) => sz = sz' ∧ hasN ln l = true ∧ hasV m l = false ∧ off + n ≤ n0 ∧ (FC.sl sz bw n fun i j => (g (off + i) j).unf).Eqv y
    | _ => False
  | .ptr l sz i j, .ptr l' sz' i' j' => lkH m l' = some l ∧ i * sz + j = i' * sz' + j'
  | .ip k g, .ip k' g' => 0 < k' ∧ k' ≤ k ∧ ∀ j, j < k' → (g j).Eqv (g' j)
  | .fn f caps, .fn f' caps' => f = f' ∧ caps'.map (lkH m) = caps.map some
  | .mp l, .mp l' => lkH m l' = some l
  | _, _ => False
def mtL (hp : List (Nat × HE)) (m : Pr) (ln : List Nat) : List Cell → List Cell → Prop
  | [], [] => True
  | c :: r, d :: s => mtC hp m ln c d ∧ mtL hp m ln r s
  | _, _ => False
def mtE (hp : List (Nat × HE)) (m : Pr) (ln : List Nat) : EV → EV → Prop
  | _, .u => True
  | .c x, .c y => match plainB y with
    | true => mtC hp m ln x y
    | false => False
  | .agg cs, .agg ds => match allPlain ds with
    | true => mtL hp m ln cs ds
    | false => False
  | _, _ => False
def mtB (hp : List (Nat × HE)) (m : Pr) (ln : List Nat) : Blk → Blk → Prop
  | .var cs, .var ds => mtL hp m ln cs ds
  | .arr sz bw n c g none, .arr sz' bw' n' c' g' none => sz = sz' ∧ bw = bw' ∧ n = n' ∧ (c' = none ∨ c = c') ∧ ∀ i, i < n → ∀ j, j < sz → (g i j).Eqv (g' i j)
  | .mpB f, .mpB f' => ∀ k, f k = f' k
  | .mpS f, .mpS f' => ∀ k, f k = f' k
  | _, _ => False
/-- What of the other is nothing: an array that is not there. -/
def mt0 : Blk → Prop
  | .arr sz _ n _ _ none => 0 < sz ∧ n = 0
  | _ => False
def mtH (hp : List (Nat × HE)) (m : Pr) (ln : List Nat) : List (Nat × Blk) → Prop
  | [] => True
  | (i, B) :: r => (match lkH m i with
    | some l => match lkH hp l with
      | some (none, A) => mtB hp m ln A B
      | _ => False
    | none => mt0 B) ∧ mtH hp m ln r

/-! The numbers, read off. -/
abbrev Acc := Pr × List Nat
def addP (a : Acc) (i l : Nat) : Acc := match hasK a.1 i with
  | true => a
  | false => ((i, l) :: a.1, a.2)
def addPs (a : Acc) : List Nat → List Nat → Acc
  | i :: r, l :: s => addPs (addP a i l) r s
  | _, _ => a
def scanC (a : Acc) : Cell → Cell → Acc
  | .own l _ _ _, .own i _ _ _ => addP a i l
  | .ptr l _ _ _, .ptr i _ _ _ => addP a i l
  | .mp l, .mp i => addP a i l
  | .fn _ caps, .fn _ caps' => addPs a caps' caps
  | .own l _ _ _, .nc (.f (.sl _ _ _ _)) => match hasN a.2 l with
    | true => a
    | false => (a.1, l :: a.2)
  | _, _ => a
def scanL (a : Acc) : List Cell → List Cell → Acc
  | c :: r, d :: s => scanL (scanC a c d) r s
  | _, _ => a
def scanE (a : Acc) : EV → EV → Acc
  | .c x, .c y => scanC a x y
  | .agg cs, .agg ds => scanL a cs ds
  | _, _ => a
def scanEs (a : Acc) : List (EV × EV) → Acc
  | [] => a
  | (x, y) :: r => scanEs (scanE a x y) r
def scanH (hp : List (Nat × HE)) (a : Acc) : List (Nat × Blk) → Acc
  | [] => a
  | (i, .var ds) :: r => match lkH a.1 i with
    | some l => match lkH hp l with
      | some (none, .var cs) => scanH hp (scanL a cs ds) r
      | _ => scanH hp a r
    | none => scanH hp a r
  | _ :: r => scanH hp a r
def mtEs (hp : List (Nat × HE)) (m : Pr) (ln : List Nat) : List (EV × EV) → Prop
  | [] => True
  | (x, y) :: r => mtE hp m ln x y ∧ mtEs hp m ln r
def keysIn2 (H : List (Nat × Blk)) : Pr → Bool
  | [] => true
  | (i, _) :: r => (match lkH H i with
    | some _ => true
    | none => false) && keysIn2 H r
def anch : Pr → Bool
  | [] => true
  | (i, l) :: r => (match Nat.blt i 100 || Nat.blt l 100 with
    | true => Nat.beq i l
    | false => true) && anch r
end Go.Ice
end

section
set_option linter.unusedVariables false
set_option linter.unusedSimpArgs false
namespace Go.Ice

def vβ (m : Pr) (β : Nat → Option Nat) (i : Nat) : Option Nat := match lkH m i with
  | some l => β l
  | none => none
def vω (m : Pr) (ln : List Nat) (dr : Bool) (ω : Nat → Option (List Nat)) (b : Nat) : Option (List Nat) := match ω b with
  | some (l :: p) => match invP m l with
    | some i => some (i :: p)
    | none => match dr || hasN ln l with
      | true => none
      | false => some []
  | x => x
section
variable {m : Pr} {ln : List Nat} {dr : Bool} {w : World} {β : Nat → Option Nat} {ω : Nat → Option (List Nat)} {hp : List (Nat × HE)}
theorem vω_none {b : Nat} (h : ω b = none) : vω m ln dr ω b = none := by simp [vω, h]
theorem vω_frn {b : Nat} (h : ω b = some []) : vω m ln dr ω b = some [] := by simp [vω, h]
theorem vω_in (hm : prOk m = true) {b i l : Nat} {p : List Nat} (h : ω b = some (l :: p)) (hl : lkH m i = some l) : vω m ln dr ω b = some (i :: p) := by simp [vω, h, invP_of hm hl]
theorem invP_none {l : Nat} (h : hasV m l = false) : invP m l = none := by
  cases hi : invP m l with
  | none => rfl
  | some i => rw [(invP_hasV hi).1] at h; cases h
theorem vω_ln {b l : Nat} {p : List Nat} (h : ω b = some (l :: p)) (hl : hasV m l = false) (hn : hasN ln l = true) : vω m ln dr ω b = none := by
  simp [vω, h, invP_none hl, hn]
theorem vβ_in {i l : Nat} (h : lkH m i = some l) : vβ m β i = β l := by simp [vβ, h]

theorem mtC_rep (hm : prOk m = true) (hA : ∀ l b, lkH hp l = some (none, b) → b.Rep w β ω l) {c e : Cell} {v : Value} {p p' : List Nat}
    (hp1 : c.plain ∨ ∀ b, b < w.heap.size → ∀ q, ω b = some (p ++ q) → vω m ln dr ω b = some (p' ++ q)) (h : mtC hp m ln c e) (hr : c.Rep w β ω p v) : e.Rep w (vβ m β) (vω m ln dr ω) p' v := by
  have anyc : Cell.Rep w (vβ m β) (vω m ln dr ω) p' (.nc (.f .any)) v := Cell.Rep.one hr
  have hmv : Mv w ω w (vω m ln dr ω) := ⟨fun b _ e => ⟨rfl, vω_none e⟩, fun _ _ h => h⟩
  have mvx : ∀ x : NC, c = .nc x → x.Rep w (vω m ln dr ω) p' v := fun x hx => by
    subst hx
    cases x with
    | f x => exact FC.Rep.mono hmv.none hr
    | uq sz bw n g =>
      rcases hp1 with h | h
      · exact h.elim
      · exact NC.Rep.move hmv.none (fun b hb q hq => ⟨rfl, h b hb q hq⟩) hr
  cases e with
  | nc y =>
    cases c with
    | nc x =>
      cases y with
      | f y =>
        cases y with
        | any => exact anyc
        | _ => exact NC.Rep.eqv h (mvx x rfl)
      | uq sz bw n g => exact NC.Rep.eqv h (mvx x rfl)
    | nil =>
      cases y with
      | f y =>
        cases y with
        | any => exact anyc
        | sl sz bw n g =>
          obtain ⟨hz, rfl⟩ := h
          exact ⟨none, 0, hr, Nat.le_refl _, by simp, by simp, hz, fun h => absurd h (by omega)⟩
        | _ => exact h.elim
      | uq sz bw n g => exact h.elim
    | own l sz off n =>
      cases y with
      | uq sz bw n g => exact h.elim
      | f y =>
        have key : (match lkH hp l with
            | some (none, .arr sz' bw n0 _ g none) => sz = sz' ∧ hasN ln l = true ∧ hasV m l = false ∧ off + n ≤ n0 ∧ (FC.sl sz bw n fun i j => (g (off + i) j).unf).Eqv y
            | _ => False) → Cell.Rep w (vβ m β) (vω m ln dr ω) p' (.nc (.f y)) v := by
          intro h
          split at h
          · rename_i sz' bw n0 c0 g hl
            obtain ⟨rfl, h1, h2, h3, h4⟩ := h
            refine FC.Rep.eqv h4 ?_
            obtain ⟨hz, hb1, hb2, hrr⟩ := hA l _ hl
            have hn47 : n ≤ big47 := by omega
            have hnb : n * bw ≤ big47 := Nat.le_trans (Nat.mul_le_mul_right _ (by omega)) hb1
            rcases hr with ⟨e1, e2, e3, e4⟩ | ⟨b, c, e1, e2, e3, e4, e5⟩
            · exact ⟨none, 0, by rw [e4, e3], by omega, hnb, hn47, hz, fun h => absurd h (by omega)⟩
            · refine ⟨_, c, e2, e3, hnb, hn47, hz, fun h0 => ⟨_, rfl, Addr.add_spot rfl _, ?_, fun i hi j hj => ?_⟩⟩
              · rcases hrr with ⟨_, hn0⟩ | ⟨b', arr, f1, f2, f3, f4, f5, f6⟩
                · omega
                · rw [e1] at f1
                  injection f1 with f1
                  subst f1
                  rw [Addr.add_block]
                  exact vω_ln f2 h2 h1
              · rcases hrr with ⟨_, hn0⟩ | ⟨b', arr, f1, f2, f3, f4, f5, f6⟩
                · omega
                · rw [e1] at f1
                  injection f1 with f1
                  subst f1
                  obtain ⟨u, hu, hur⟩ := f6 (off + i) (by omega) j hj
                  refine ⟨u, ?_, ?_⟩
                  · rw [Addr.add_plain, Addr.add_plain]
                    apply f3.cell
                    rw [← hu]
                    congr 1
                    rw [Nat.add_mul]
                    omega
                  · simp only [arrCell] at hur
                    exact NC.Rep.freeze (fun b _ e => ⟨rfl, vω_none e⟩) (fun b hb q hq => ⟨rfl, vω_ln hq h2 h1⟩) hur
          · exact h.elim
        cases y with
        | any => exact anyc
        | _ => exact key h
    | _ =>
      cases y with
      | f y =>
        cases y with
        | any => exact anyc
        | _ => exact h.elim
      | uq sz bw n g => exact h.elim
  | nil => cases c <;> first | exact hr | exact h.elim
  | own l sz off n =>
    cases c with
    | nil =>
      obtain ⟨h1, rfl, rfl⟩ := h
      exact .inl ⟨by simp [vβ, h1], rfl, rfl, hr⟩
    | own l' sz' off' n' =>
      obtain ⟨h1, rfl, rfl, rfl⟩ := h
      rcases hr with ⟨e1, e2⟩ | ⟨b, c, e1, e2⟩
      · exact .inl ⟨by rw [vβ_in h1]; exact e1, e2⟩
      · exact .inr ⟨b, c, by rw [vβ_in h1]; exact e1, e2⟩
    | _ => exact h.elim
  | ptr l sz i j =>
    cases c with
    | ptr l' sz' i' j' =>
      obtain ⟨h1, h2⟩ := h
      obtain ⟨b, e1, e2⟩ := hr
      exact ⟨b, by rw [vβ_in h1]; exact e1, by rw [e2, h2]⟩
    | _ => exact h.elim
  | ip k g =>
    cases c with
    | ip k' g' =>
      obtain ⟨h1, h2, h3⟩ := h
      obtain ⟨e1, ad, e2, e3, e4, e5⟩ := hr
      refine ⟨h1, ad, e2, e3, vω_none e4, fun j hj => ?_⟩
      obtain ⟨u, hu, hr⟩ := e5 j (by omega)
      exact ⟨u, hu, FC.Rep.eqv (h3 j hj) (FC.Rep.mono (fun b _ e => ⟨rfl, vω_none e⟩) hr)⟩
    | _ => exact h.elim
  | fn f caps =>
    cases c with
    | fn f' caps' =>
      obtain ⟨rfl, h2⟩ := h
      obtain ⟨bs, e1, e2⟩ := hr
      refine ⟨bs, ?_, e2⟩
      rw [← e1]
      have key : ∀ (xs ys : List Nat), xs.map (lkH m) = ys.map some → xs.map (vβ m β) = ys.map β := by
        intro xs
        induction xs with
        | nil => intro ys h; cases ys with
          | nil => rfl
          | cons y r => simp at h
        | cons x r ih =>
          intro ys h
          cases ys with
          | nil => simp at h
          | cons y s =>
            simp only [List.map_cons, List.cons.injEq] at h ⊢
            exact ⟨vβ_in h.1, ih s h.2⟩
      exact key _ _ h2
    | _ => exact h.elim
  | mp l =>
    cases c with
    | mp l' =>
      obtain ⟨b, e1, e2⟩ := hr
      exact ⟨b, by rw [vβ_in h]; exact e1, e2⟩
    | _ => exact h.elim

theorem mtL_len {cs ds : List Cell} (h : mtL hp m ln cs ds) : cs.length = ds.length ∧ ∀ (j : Nat) (d : Cell), ds[j]? = some d → ∃ c, cs[j]? = some c ∧ mtC hp m ln c d := by
  induction cs generalizing ds with
  | nil =>
    cases ds with
    | nil => exact ⟨rfl, fun j d e => by simp at e⟩
    | cons d s => exact h.elim
  | cons c r ih =>
    cases ds with
    | nil => exact h.elim
    | cons d s =>
      obtain ⟨h1, h2⟩ := ih h.2
      refine ⟨by simp [h1], fun j x e => ?_⟩
      cases j with
      | zero => simp only [List.getElem?_cons_zero, Option.some.injEq] at e; subst e; exact ⟨c, rfl, h.1⟩
      | succ j => simp only [List.getElem?_cons_succ] at e ⊢; exact h2 j x e

theorem mtE_rep (hm : prOk m = true) (hA : ∀ l b, lkH hp l = some (none, b) → b.Rep w β ω l) {x y : EV} {v : Value} (h : mtE hp m ln x y) (hr : x.Rep w β ω v) : y.Rep w (vβ m β) (vω m ln dr ω) v := by
  cases y with
  | u => trivial
  | c y =>
    cases x with
    | c x =>
      simp only [mtE] at h
      split at h
      · rename_i hpl
        exact ⟨plainB_iff hpl, mtC_rep hm hA (.inl hr.1) h hr.2⟩
      · exact h.elim
    | agg cs => exact h.elim
    | u => exact h.elim
  | agg ds =>
    cases x with
    | agg cs =>
      simp only [mtE] at h
      split at h
      · rename_i hpl
        obtain ⟨arr, hv, ⟨hs, hc⟩, hp⟩ := hr
        obtain ⟨h1, h2⟩ := mtL_len h
        refine ⟨arr, hv, ⟨by rw [hs, h1], fun j d hj => ?_⟩, fun d hd => allPlain_mem hpl hd⟩
        obtain ⟨c, hc1, hc2⟩ := h2 j d hj
        obtain ⟨u, hu, hr⟩ := hc j c hc1
        exact ⟨u, hu, mtC_rep hm hA (.inl (hp c (List.mem_of_getElem? hc1))) hc2 hr⟩
      · exact h.elim
    | c x => exact h.elim
    | u => exact h.elim

theorem mtB_rep (hm : prOk m = true) (hA : ∀ l b, lkH hp l = some (none, b) → b.Rep w β ω l) {i l : Nat} (hi : lkH m i = some l) {A B : Blk} (h : mtB hp m ln A B) (hr : A.Rep w β ω l) : B.Rep w (vβ m β) (vω m ln dr ω) i := by
  have hmv : Mv w ω w (vω m ln dr ω) := ⟨fun b _ e => ⟨rfl, vω_none e⟩, fun _ _ h => h⟩
  unfold mtB at h
  split at h
  · rename_i cs ds
    obtain ⟨b, arr, e1, e2, e3, e4, e5⟩ := hr
    obtain ⟨h1, h2⟩ := mtL_len h
    refine ⟨b, arr, by rw [vβ_in hi]; exact e1, vω_in hm e2 hi, e3, by rw [e4, h1], fun j d hj => ?_⟩
    obtain ⟨c, hc1, hc2⟩ := h2 j d hj
    obtain ⟨u, hu, hr⟩ := e5 j c hc1
    exact ⟨u, hu, mtC_rep hm hA (.inr fun b hb q hq => vω_in hm hq hi) hc2 hr⟩
  · rename_i sz bw n c g sz' bw' n' c' g'
    obtain ⟨rfl, rfl, rfl, hc, hg⟩ := h
    obtain ⟨hz, hb1, hb2, hr⟩ := hr
    refine ⟨hz, hb1, hb2, ?_⟩
    rcases hr with ⟨e1, e2⟩ | ⟨b, arr, e1, e2, e3, e4, e5, e6⟩
    · exact .inl ⟨by rw [vβ_in hi]; exact e1, e2⟩
    · refine .inr ⟨b, arr, by rw [vβ_in hi]; exact e1, vω_in hm e2 hi, e3, e4, fun c0 hc0 => ?_, fun k hk j hj => ?_⟩
      · rcases hc with hc | hc
        · rw [hc] at hc0; cases hc0
        · exact e5 c0 (by rw [hc]; exact hc0)
      · obtain ⟨u, hu, hr⟩ := e6 k hk j hj
        refine ⟨u, hu, ?_⟩
        exact NC.Rep.eqv (hg k hk j hj) (NC.Rep.move hmv.none (fun b hb q hq => ⟨rfl, vω_in hm hq hi⟩) hr)
  · rename_i f f'
    obtain ⟨b, es, t, e1, e2, e3⟩ := hr
    have : f = f' := funext h
    subst this
    exact ⟨b, es, t, by rw [vβ_in hi]; exact e1, vω_in hm e2 hi, e3⟩
  · rename_i f f'
    obtain ⟨b, es, t, e1, e2, e3⟩ := hr
    have : f = f' := funext h
    subst this
    exact ⟨b, es, t, by rw [vβ_in hi]; exact e1, vω_in hm e2 hi, e3⟩
  · exact h.elim

theorem mtH_rep (hm : prOk m = true) (hA : ∀ l b, lkH hp l = some (none, b) → b.Rep w β ω l) {H : List (Nat × Blk)} (h : mtH hp m ln H) : ∀ i B, lkH H i = some B → B.Rep w (vβ m β) (vω m ln dr ω) i := by
  induction H with
  | nil => intro i B e; cases e
  | cons x r ih =>
    obtain ⟨k, B'⟩ := x
    intro i B e
    simp only [lkH] at e
    cases hb : Nat.beq k i with
    | false => rw [hb] at e; exact ih h.2 i B e
    | true =>
      rw [hb] at e
      injection e with e
      subst e
      have := Nat.eq_of_beq_eq_true hb
      subst this
      have h1 := h.1
      split at h1
      · rename_i l hl
        split at h1
        · rename_i A hlA
          exact mtB_rep hm hA hl h1 (hA l A hlA)
        · exact h1.elim
      · rename_i hl
        unfold mt0 at h1
        split at h1
        · obtain ⟨hz, rfl⟩ := h1
          exact ⟨hz, by simp, by simp, .inl ⟨by simp [vβ, hl], rfl⟩⟩
        · exact h1.elim
theorem hasK_lk {m : Pr} {i : Nat} (h : hasK m i = true) : ∃ l, lkH m i = some l := by
  induction m with
  | nil => cases h
  | cons x r ih =>
    obtain ⟨k, v⟩ := x
    simp only [hasK] at h
    simp only [lkH]
    cases hb : Nat.beq k i with
    | true => exact ⟨v, rfl⟩
    | false => rw [hb] at h; exact ih h
theorem keysIn2_lk {H : List (Nat × Blk)} {m : Pr} (h : keysIn2 H m = true) {i : Nat} (hi : hasK m i = true) : ∃ B, lkH H i = some B := by
  induction m with
  | nil => cases hi
  | cons x r ih =>
    obtain ⟨k, v⟩ := x
    simp only [keysIn2, Bool.and_eq_true] at h
    simp only [hasK] at hi
    cases hb : Nat.beq k i with
    | true =>
      have := Nat.eq_of_beq_eq_true hb
      subst this
      cases hl : lkH H k with
      | some B => exact ⟨B, rfl⟩
      | none => rw [hl] at h; cases h.1
    | false => rw [hb] at hi; exact ih h.2 hi
theorem vω_some {b : Nat} {q : List Nat} (h : vω m ln dr ω b = some q) : (q = [] ∧ (ω b = some [] ∨ (dr = false ∧ ∃ l p, ω b = some (l :: p) ∧ hasN ln l = false ∧ invP m l = none))) ∨ ∃ i l p, q = i :: p ∧ ω b = some (l :: p) ∧ invP m l = some i := by
  unfold vω at h
  split at h
  · rename_i l p e
    split at h
    · rename_i i hi
      injection h with h
      exact .inr ⟨i, l, p, h.symm, e, hi⟩
    · rename_i hi
      split at h
      · cases h
      · rename_i hb
        injection h with h
        simp only [Bool.or_eq_false_iff] at hb
        exact .inl ⟨h.symm, .inr ⟨hb.1, l, p, e, hb.2, hi⟩⟩
  · rename_i hx
    rw [h] at hx
    cases q with
    | nil => exact .inl ⟨rfl, .inl h⟩
    | cons i p => exact absurd rfl (hx i p)
theorem vω_cl (hm : prOk m = true) {H : List (Nat × Blk)} (hk : keysIn2 H m = true) {b i : Nat} {p : List Nat} (h : vω m ln dr ω b = some (i :: p)) : ∃ B, lkH H i = some B := by
  rcases vω_some h with ⟨h1, _⟩ | ⟨i', l, p', h1, h2, h3⟩
  · cases h1
  · injection h1 with h1 _
    subst h1
    exact keysIn2_lk hk (invP_hasV h3).2
end
end Go.Ice
end

section
set_option linter.unusedVariables false
set_option linter.unusedSimpArgs false
namespace Go.Ice

/-! ### Numbers in cells -/
def allN (f : Nat → Bool) : List Nat → Bool
  | [] => true
  | x :: r => f x && allN f r
def Cell.all (f : Nat → Bool) : Cell → Bool
  | .own l _ _ _ => f l
  | .ptr l _ _ _ => f l
  | .fn _ caps => allN f caps
  | .mp l => f l
  | _ => true
def cellsAll (f : Nat → Bool) : List Cell → Bool
  | [] => true
  | c :: r => c.all f && cellsAll f r
def EV.all (f : Nat → Bool) : EV → Bool
  | .c x => x.all f
  | .agg cs => cellsAll f cs
  | .u => true
def evsAll (f : Nat → Bool) : List EV → Bool
  | [] => true
  | c :: r => c.all f && evsAll f r
def TV.all (f : Nat → Bool) : TV → Bool
  | .e x => x.all f
  | .tup xs => evsAll f xs
  | .wh _ _ x => x.all f
def Blk.all (f : Nat → Bool) : Blk → Bool
  | .var cs => cellsAll f cs
  | .pre cs => cellsAll f cs
  | .arr _ _ _ _ _ (some (_, _, c)) => c.all f
  | _ => true
def tmAll (f : Nat → Bool) : List (Nat × TV) → Bool
  | [] => true
  | (_, v) :: r => v.all f && tmAll f r
def hpAll (f : Nat → Bool) : List (Nat × HE) → Bool
  | [] => true
  | (k, (_, b)) :: r => f k && b.all f && hpAll f r
def hoAll (f : Nat → Bool) : List (Nat × Blk) → Bool
  | [] => true
  | (k, b) :: r => f k && b.all f && hoAll f r
def AS.bd (σ : AS) (n : Nat) : Bool := tmAll (fun l => Nat.blt l n) σ.tm && hpAll (fun l => Nat.blt l n) σ.hp

theorem allN_no {f : Nat → Bool} {l : Nat} (hf : f l = false) : ∀ {xs : List Nat}, allN f xs = true → hasN xs l = false
  | [], _ => rfl
  | x :: r, h => by
    simp only [allN, Bool.and_eq_true] at h
    simp only [hasN]
    cases hb : Nat.beq x l with
    | true =>
      have := Nat.eq_of_beq_eq_true hb
      subst this
      rw [h.1] at hf; cases hf
    | false => exact allN_no hf h.2
theorem Cell.all_no {f : Nat → Bool} {l : Nat} (hf : f l = false) {c : Cell} (h : c.all f = true) : c.no l = true := by
  have key : ∀ l', f l' = true → (!(Nat.beq l' l)) = true := fun l' h' => by
    cases hb : Nat.beq l' l with
    | true =>
      have := Nat.eq_of_beq_eq_true hb
      subst this
      rw [h'] at hf; cases hf
    | false => rfl
  cases c with
  | own l' _ _ _ => exact key l' h
  | ptr l' _ _ _ => exact key l' h
  | mp l' => exact key l' h
  | fn f caps => simp only [Cell.no, allN_no hf h]; rfl
  | _ => rfl
theorem cellsAll_no {f : Nat → Bool} {l : Nat} (hf : f l = false) : ∀ {cs : List Cell}, cellsAll f cs = true → cellsNo l cs = true
  | [], _ => rfl
  | c :: r, h => by
    simp only [cellsAll, Bool.and_eq_true] at h
    simp only [cellsNo, Bool.and_eq_true]
    exact ⟨Cell.all_no hf h.1, cellsAll_no hf h.2⟩
theorem EV.all_no {f : Nat → Bool} {l : Nat} (hf : f l = false) {c : EV} (h : c.all f = true) : c.no l = true := by
  cases c with
  | c x => exact Cell.all_no hf h
  | agg cs => exact cellsAll_no hf h
  | u => rfl
theorem evsAll_no {f : Nat → Bool} {l : Nat} (hf : f l = false) : ∀ {cs : List EV}, evsAll f cs = true → evsNo l cs = true
  | [], _ => rfl
  | c :: r, h => by
    simp only [evsAll, Bool.and_eq_true] at h
    simp only [evsNo, Bool.and_eq_true]
    exact ⟨EV.all_no hf h.1, evsAll_no hf h.2⟩
theorem TV.all_no {f : Nat → Bool} {l : Nat} (hf : f l = false) {c : TV} (h : c.all f = true) : c.no l = true := by
  cases c with
  | e x => exact EV.all_no hf h
  | tup xs => exact evsAll_no hf h
  | wh s p x => exact EV.all_no hf h
theorem Blk.all_no {f : Nat → Bool} {l : Nat} (hf : f l = false) {c : Blk} (h : c.all f = true) : c.no l = true := by
  unfold Blk.all at h
  split at h
  · exact cellsAll_no hf h
  · exact cellsAll_no hf h
  · exact Cell.all_no hf h
  · rename_i h1 h0 h2
    unfold Blk.no
    split
    · exact absurd rfl (h1 _)
    · exact absurd rfl (h0 _)
    · exact absurd rfl (h2 _ _ _ _ _ _ _ _)
    · rfl
theorem tmAll_no {f : Nat → Bool} {l : Nat} (hf : f l = false) : ∀ {tm : List (Nat × TV)}, tmAll f tm = true → tmNo l tm = true
  | [], _ => rfl
  | (k, v) :: r, h => by
    simp only [tmAll, Bool.and_eq_true] at h
    simp only [tmNo, Bool.and_eq_true]
    exact ⟨TV.all_no hf h.1, tmAll_no hf h.2⟩
theorem hpAll_no {f : Nat → Bool} {l : Nat} (hf : f l = false) : ∀ {hp : List (Nat × HE)}, hpAll f hp = true → hpNo l hp = true
  | [], _ => rfl
  | (k, g, v) :: r, h => by
    simp only [hpAll, Bool.and_eq_true] at h
    simp only [hpNo, Bool.and_eq_true]
    refine ⟨⟨?_, Blk.all_no hf h.1.2⟩, hpAll_no hf h.2⟩
    cases hb : Nat.beq k l with
    | true =>
      have := Nat.eq_of_beq_eq_true hb
      subst this
      rw [h.1.1] at hf; cases hf
    | false => rfl
theorem blt_false {l n : Nat} (h : n ≤ l) : Nat.blt l n = false := by
  cases hb : Nat.blt l n with
  | false => rfl
  | true => simp [Nat.blt_eq] at hb; omega
theorem AS.bd_fresh {σ : AS} {n : Nat} (h : σ.bd n = true) {l : Nat} (hl : n ≤ l) : σ.fresh l = true := by
  simp only [AS.bd, Bool.and_eq_true] at h
  simp only [AS.fresh, Bool.and_eq_true]
  exact ⟨tmAll_no (f := fun l => Nat.blt l n) (blt_false hl) h.1, hpAll_no (f := fun l => Nat.blt l n) (blt_false hl) h.2⟩

/-! ### Other names -/
def Cell.ren (r : Nat → Nat) : Cell → Cell
  | .own l sz off n => .own (r l) sz off n
  | .ptr l sz i j => .ptr (r l) sz i j
  | .fn f caps => .fn f (caps.map r)
  | .mp l => .mp (r l)
  | c => c
def EV.ren (r : Nat → Nat) : EV → EV
  | .c x => .c (x.ren r)
  | .agg cs => .agg (cs.map (Cell.ren r))
  | .u => .u
def TV.ren (r : Nat → Nat) : TV → TV
  | .e x => .e (x.ren r)
  | .tup l => .tup (l.map (EV.ren r))
  | .wh _ _ _ => .e .u
def Blk.ren (r : Nat → Nat) : Blk → Blk
  | .var cs => .var (cs.map (Cell.ren r))
  | .pre cs => .pre (cs.map (Cell.ren r))
  | .arr sz bw n c g h => .arr sz bw n c g (match h with
    | none => none
    | some (i, j, x) => some (i, j, x.ren r))
  | b => b

def FC.nofr : FC → Prop
  | .sl _ _ _ _ => False
  | _ => True
def NC.nofr : NC → Prop
  | .f x => x.nofr
  | .uq sz _ n g => ∀ i, i < n → ∀ j, j < sz → (g i j).nofr
def Cell.nofr : Cell → Prop
  | .nc x => x.nofr
  | .ip _ _ => False
  | _ => True
def EV.nofr : EV → Prop
  | .c x => x.nofr
  | .agg cs => ∀ c ∈ cs, c.nofr
  | .u => True
def TV.nofr : TV → Prop
  | .e x => x.nofr
  | .tup l => ∀ x ∈ l, x.nofr
  | .wh _ _ _ => True
def Blk.nofr : Blk → Prop
  | .var cs => ∀ c ∈ cs, c.nofr
  | .pre cs => ∀ c ∈ cs, c.nofr
  | .arr sz _ n _ g none => ∀ i, i < n → ∀ j, j < sz → (g i j).nofr
  | .arr _ _ _ _ _ (some _) => False
  | _ => True
theorem FC.nofr_rep {w : World} {fr fr' : Nat → Prop} {x : FC} {v : Value} (hn : x.nofr) (h : x.Rep w fr v) : x.Rep w fr' v := by
  cases x with
  | sl => exact hn.elim
  | _ => exact h

section
variable {w : World} {β β' : Nat → Option Nat} {ω ω' : Nat → Option (List Nat)} {r : Nat → Nat}

theorem NC.Rep.ren : ∀ {x : NC} {v : Value} {p p' : List Nat}, (x.nofr ∨ ∀ b, ω b = none → ω' b = none) → (∀ b q, ω b = some (p ++ q) → ω' b = some (p' ++ q)) → x.Rep w ω p v → x.Rep w ω' p' v := by
  intro x
  induction x with
  | f x =>
    intro v p p' hn h1 h
    rcases hn with hn | hn
    · exact FC.nofr_rep hn h
    · exact FC.Rep.mono (fun b _ e => ⟨rfl, hn b e⟩) h
  | uq sz bw n g ih =>
    intro v p p' hn h1 h
    obtain ⟨hz, e1, e2, h⟩ := h
    refine ⟨hz, e1, e2, ?_⟩
    rcases h with h | ⟨b, c, arr, h2, h3, h4, h5, h6, h7, h8⟩
    · exact .inl h
    · refine .inr ⟨b, c, arr, h2, by simpa using h1 b [] (by simpa using h3), h4, h5, h6, h7, fun i hi j hj => ?_⟩
      obtain ⟨u, hu, hr⟩ := h8 i hi j hj
      refine ⟨u, hu, ih i j (hn.imp (fun hn => hn i hi j hj) id) (fun b q hq => ?_) hr⟩
      have := h1 b ([i, j] ++ q) (by simpa using hq)
      simpa using this
theorem Cell.Rep.ren {c : Cell} {v : Value} {p p' : List Nat} (hn : c.nofr ∨ ∀ b, ω b = none → ω' b = none) (hl : ∀ l, c.no l = false → β' (r l) = β l) (h1 : c.plain ∨ ∀ b q, ω b = some (p ++ q) → ω' b = some (p' ++ q)) (h : c.Rep w β ω p v) :
    (c.ren r).Rep w β' ω' p' v := by
  cases c with
  | nc x =>
    cases x with
    | f x =>
      rcases hn with hn | hn
      · exact FC.nofr_rep hn h
      · exact FC.Rep.mono (fun b _ e => ⟨rfl, hn b e⟩) h
    | uq sz bw n g =>
      rcases h1 with h1 | h1
      · exact h1.elim
      · exact NC.Rep.ren hn h1 h
  | nil => exact h
  | own l sz off n =>
    have := hl l (by simp [Cell.no])
    simp only [Cell.ren, Cell.Rep] at h ⊢
    rw [this]
    exact h
  | ptr l sz i j =>
    have := hl l (by simp [Cell.no])
    simp only [Cell.ren, Cell.Rep] at h ⊢
    rw [this]
    exact h
  | ip m g =>
    rcases hn with hn | hn
    · exact hn.elim
    · obtain ⟨e1, ad, e2, e3, e4, e5⟩ := h
      refine ⟨e1, ad, e2, e3, hn _ e4, fun j hj => ?_⟩
      obtain ⟨u, hu, hr⟩ := e5 j hj
      exact ⟨u, hu, FC.Rep.mono (fun b _ e => ⟨rfl, hn b e⟩) hr⟩
  | fn f caps =>
    obtain ⟨bs, e1, e2⟩ := h
    refine ⟨bs, ?_, e2⟩
    rw [← e1, List.map_map]
    refine List.map_congr_left fun l hm => hl l ?_
    simp only [Cell.no]
    rw [(hasN_iff caps l).2 hm]
    rfl
  | mp l =>
    have := hl l (by simp [Cell.no])
    simp only [Cell.ren, Cell.Rep] at h ⊢
    rw [this]
    exact h
theorem Cell.ren_plain {c : Cell} (h : c.plain) : (c.ren r).plain := by
  cases c with
  | nc x => cases x with
    | f x => trivial
    | uq => exact h.elim
  | _ => trivial
theorem cellsNo_of_mem {l : Nat} {cs : List Cell} {c : Cell} (hc : c ∈ cs) (h : c.no l = false) : cellsNo l cs = false := by
  cases hh : cellsNo l cs with
  | false => rfl
  | true => rw [cellsNo_mem hh hc] at h; cases h
theorem evsNo_of_mem {l : Nat} {cs : List EV} {c : EV} (hc : c ∈ cs) (h : c.no l = false) : evsNo l cs = false := by
  cases hh : evsNo l cs with
  | false => rfl
  | true => rw [evsNo_mem hh hc] at h; cases h
theorem EV.Rep.ren {x : EV} {v : Value} (hn : x.nofr ∨ ∀ b, ω b = none → ω' b = none) (hl : ∀ l, x.no l = false → β' (r l) = β l) (h : x.Rep w β ω v) : (x.ren r).Rep w β' ω' v := by
  cases x with
  | c x => exact ⟨Cell.ren_plain h.1, Cell.Rep.ren hn hl (.inl h.1) h.2⟩
  | agg cs =>
    obtain ⟨arr, hv, ⟨hs, hc⟩, hp⟩ := h
    refine ⟨arr, hv, ⟨by rw [hs, List.length_map], fun j c hj => ?_⟩, fun c hc => ?_⟩
    · rw [List.getElem?_map] at hj
      cases hj' : cs[j]? with
      | none => rw [hj'] at hj; cases hj
      | some d =>
        rw [hj'] at hj
        simp only [Option.map_some, Option.some.injEq] at hj
        subst hj
        have hm := List.mem_of_getElem? hj'
        obtain ⟨u, hu, hr⟩ := hc j d hj'
        exact ⟨u, hu, Cell.Rep.ren (hn.imp (fun h => h d hm) id) (fun l e => hl l (cellsNo_of_mem hm e)) (.inl (hp d hm)) hr⟩
    · obtain ⟨d, hd, rfl⟩ := List.mem_map.1 hc
      exact Cell.ren_plain (hp d hd)
  | u => trivial
theorem TV.Rep.ren {a : Act} {x : TV} {v : Value} (hn : x.nofr ∨ ∀ b, ω b = none → ω' b = none) (hl : ∀ l, x.no l = false → β' (r l) = β l) (h : x.Rep w β ω a v) {a' : Act} : (x.ren r).Rep w β' ω' a' v := by
  cases x with
  | e x => exact EV.Rep.ren hn hl h
  | tup l =>
    obtain ⟨vs, hv, hs, hc⟩ := h
    refine ⟨vs, hv, by rw [hs, List.length_map], fun k x hk => ?_⟩
    rw [List.getElem?_map] at hk
    cases hk' : l[k]? with
    | none => rw [hk'] at hk; cases hk
    | some d =>
      rw [hk'] at hk
      simp only [Option.map_some, Option.some.injEq] at hk
      subst hk
      have hm := List.mem_of_getElem? hk'
      obtain ⟨u, hu, hr⟩ := hc k d hk'
      exact ⟨u, hu, EV.Rep.ren (hn.imp (fun h => h d hm) id) (fun l e => hl l (evsNo_of_mem hm e)) hr⟩
  | wh s p x => trivial
theorem Blk.Rep.ren {b : Blk} {i l : Nat} (hn : b.nofr ∨ ∀ b, ω b = none → ω' b = none) (hl : ∀ l, b.no l = false → β' (r l) = β l) (hi : β' l = β i) (h1 : ∀ b q, ω b = some (i :: q) → ω' b = some (l :: q)) (h : b.Rep w β ω i) :
    (b.ren r).Rep w β' ω' l := by
  cases b with
  | var cs =>
    obtain ⟨b, arr, e1, e2, e3, e4, e5⟩ := h
    refine ⟨b, arr, hi.trans e1, h1 b [] e2, e3, by rw [e4, List.length_map], fun j c hj => ?_⟩
    rw [List.getElem?_map] at hj
    cases hj' : cs[j]? with
    | none => rw [hj'] at hj; cases hj
    | some d =>
      rw [hj'] at hj
      simp only [Option.map_some, Option.some.injEq] at hj
      subst hj
      have hm := List.mem_of_getElem? hj'
      obtain ⟨u, hu, hr⟩ := e5 j d hj'
      exact ⟨u, hu, Cell.Rep.ren (hn.imp (fun h => h d hm) id) (fun l e => hl l (cellsNo_of_mem hm e)) (.inr fun b q hq => h1 b (0 :: j :: q) hq) hr⟩
  | arr sz bw n c g hole =>
    obtain ⟨hz, hb1, hb2, h⟩ := h
    refine ⟨hz, hb1, hb2, ?_⟩
    rcases h with ⟨e1, e2⟩ | ⟨b, arr, e1, e2, e3, e4, e5, e6⟩
    · exact .inl ⟨hi.trans e1, e2⟩
    · refine .inr ⟨b, arr, hi.trans e1, h1 b [] e2, e3, e4, e5, fun k hk j hj => ?_⟩
      obtain ⟨u, hu, hr⟩ := e6 k hk j hj
      refine ⟨u, hu, ?_⟩
      cases hole with
      | none => exact Cell.Rep.ren (r := r) (c := .nc (g k j)) (hn.imp (fun h => h k hk j hj) id) (fun l e => by cases e) (.inr fun b q hq => h1 b (k :: j :: q) hq) hr
      | some x =>
        obtain ⟨i', j', x⟩ := x
        have hn' : ∀ b, ω b = none → ω' b = none := hn.resolve_left id
        simp only [arrCell] at hr ⊢
        split
        · rename_i e
          rw [if_pos e] at hr
          exact Cell.Rep.ren (.inr hn') (fun l e => hl l e) (.inr fun b q hq => h1 b (k :: j :: q) hq) hr
        · rename_i e
          rw [if_neg e] at hr
          exact Cell.Rep.ren (r := r) (c := .nc (g k j)) (.inr hn') (fun l e => by cases e) (.inr fun b q hq => h1 b (k :: j :: q) hq) hr
  | pre cs =>
    rcases h with h | ⟨b, arr, e1, e2, e3, e4, e5⟩
    · exact .inl (hi.trans h)
    refine .inr ⟨b, arr, hi.trans e1, h1 b [] e2, e3, by rw [e4, List.length_map], fun j c hj => ?_⟩
    rw [List.getElem?_map] at hj
    cases hj' : cs[j]? with
    | none => rw [hj'] at hj; cases hj
    | some d =>
      rw [hj'] at hj
      simp only [Option.map_some, Option.some.injEq] at hj
      subst hj
      have hm := List.mem_of_getElem? hj'
      obtain ⟨u, hu, hr⟩ := e5 j d hj'
      exact ⟨u, hu, Cell.Rep.ren (hn.imp (fun h => h d hm) id) (fun l e => hl l (cellsNo_of_mem hm e)) (.inr fun b q hq => h1 b (0 :: j :: q) hq) hr⟩
  | mpB f =>
    obtain ⟨b, es, t, e1, e2, e3⟩ := h
    exact ⟨b, es, t, hi.trans e1, h1 b [] e2, e3⟩
  | mpS f =>
    obtain ⟨b, es, t, e1, e2, e3⟩ := h
    exact ⟨b, es, t, hi.trans e1, h1 b [] e2, e3⟩
end
end Go.Ice
end

section
set_option linter.unusedVariables false
set_option linter.unusedSimpArgs false
namespace Go.Ice

/-! ### Contracts of functions, and calls -/
structure FSpec where
  D : Type
  pre : D → Prop
  args : D → List EV
  hin : D → List (Nat × Blk)
  res : D → TV
  hout : D → List (Nat × Blk)
  lend : Bool
  lends : lend = true → ∀ d, pre d → (res d).nofr ∧ ∀ i B, lkH (hout d) i = some B → B.nofr

/-- What stands ahead of a call, and behind it. -/
structure FIn (H : List (Nat × Blk)) (w : World) (β : Nat → Option Nat) (ω : Nat → Option (List Nat)) : Prop where
  hp : ∀ i B, lkH H i = some B → B.Rep w β ω i
  cl : ∀ b i p, ω b = some (i :: p) → ∃ B, lkH H i = some B
  lt : ∀ b p, ω b = some p → b < w.heap.size
def ArgsRep (w : World) (β : Nat → Option Nat) (ω : Nat → Option (List Nat)) (xs : List EV) (vs : List Value) : Prop :=
  xs.length = vs.length ∧ ∀ (k : Nat) (x : EV), xs[k]? = some x → ∃ u, vs[k]? = some u ∧ x.Rep w β ω u
def act0 : Act := { tmps := #[], defers := [] }
def FSpec.Ok (P : Program) (f : Nat) (S : FSpec) : Prop :=
  ∀ d, S.pre d → ∀ w β ω (vs : List Value), ArgsRep w β ω (S.args d) vs → FIn (S.hin d) w β ω →
    Calls P f vs.toArray w fun e w' => ∃ v β' ω', e = .returned v ∧ Ext w ω w' ω' ∧ (∀ i, i < 100 → β' i = β i) ∧ (S.res d).Rep w' β' ω' act0 v ∧ FIn (S.hout d) w' β' ω'
/-- A function with a body of its own. -/
def FnOk (P : Program) (f : Nat) : Prop := ∃ fn, P.funcs[f]? = some fn ∧ (fn.name == "runtime.NumGoroutine") = false ∧ fn.body.isNone = false

def dupK {α : Type} : List (Nat × α) → Bool
  | [] => true
  | (k, _) :: r => (match lkH r k with
    | some _ => false
    | none => true) && dupK r
theorem lkH_none_mem {α : Type} {hp : List (Nat × α)} {l : Nat} (h : lkH hp l = none) (x : α) : (l, x) ∉ hp := by
  induction hp with
  | nil => simp
  | cons y r ih =>
    obtain ⟨k, v⟩ := y
    simp only [lkH] at h
    cases hb : Nat.beq k l with
    | true => rw [hb] at h; cases h
    | false =>
      rw [hb] at h
      have := Nat.ne_of_beq_eq_false hb
      intro hm
      cases hm with
      | head => exact this rfl
      | tail _ hm => exact ih h hm
theorem lkH_mem {α : Type} {hp : List (Nat × α)} {l : Nat} {x : α} (h : lkH hp l = some x) : (l, x) ∈ hp := by
  induction hp with
  | nil => cases h
  | cons y r ih =>
    obtain ⟨k, v⟩ := y
    simp only [lkH] at h
    cases hb : Nat.beq k l with
    | true =>
      rw [hb] at h
      injection h with h
      have := Nat.eq_of_beq_eq_true hb
      subst this h
      exact .head _
    | false => rw [hb] at h; exact .tail _ (ih h)
theorem dupK_lk {α : Type} {es : List (Nat × α)} (hd : dupK es = true) {l : Nat} {x : α} (h : (l, x) ∈ es) : lkH es l = some x := by
  induction es with
  | nil => cases h
  | cons y r ih =>
    obtain ⟨k, v⟩ := y
    simp only [dupK, Bool.and_eq_true] at hd
    simp only [lkH]
    cases h with
    | head => simp
    | tail _ hm =>
      have := ih hd.2 hm
      cases hb : Nat.beq k l with
      | true =>
        have e := Nat.eq_of_beq_eq_true hb
        subst e
        rw [this] at hd
        cases hd.1
      | false => exact this
theorem lkH_edH {id : Nat} {g : Gd} {l : Nat} : ∀ {es : Eds} {hp : List (Nat × HE)}, dupK es = true → lkH (edH id g hp es) l = match lkH es l with
    | none => lkH hp l
    | some (some b) => some (newTag id g l, b)
    | some none => none
  | [], hp, _ => rfl
  | (k, some b) :: r, hp, h => by
    simp only [dupK, Bool.and_eq_true] at h
    simp only [edH]
    rw [lkH_edH h.2, lkH_putH]
    simp only [lkH]
    cases hb : Nat.beq k l with
    | true =>
      have e := Nat.eq_of_beq_eq_true hb
      subst e
      cases hr : lkH r k with
      | none => simp
      | some x => rw [hr] at h; cases h.1
    | false =>
      have := Nat.ne_of_beq_eq_false hb
      rw [if_neg (fun e => this e.symm)]
  | (k, none) :: r, hp, h => by
    simp only [dupK, Bool.and_eq_true] at h
    simp only [edH]
    rw [lkH_edH h.2, lkH_delH]
    simp only [lkH]
    cases hb : Nat.beq k l with
    | true =>
      have e := Nat.eq_of_beq_eq_true hb
      subst e
      cases hr : lkH r k with
      | none => simp
      | some x => rw [hr] at h; cases h.1
    | false =>
      have := Nat.ne_of_beq_eq_false hb
      rw [if_neg (fun e => this e.symm)]
theorem tagNo_edH {d id : Nat} {g : Gd} (ht : ∀ l, match newTag id g l with
    | none => True
    | some (s, _) => s ≠ d) : ∀ {es : Eds} {hp : List (Nat × HE)}, tagNo d hp = true → tagNo d (edH id g hp es) = true
  | [], _, h => h
  | (l, some b) :: r, hp, h => by simp only [edH]; exact tagNo_edH ht (tagNo_putH h _ _ (ht l))
  | (l, none) :: r, hp, h => by simp only [edH]; exact tagNo_edH ht (tagNo_delH h _)

/-! ### What is known of all that stands in memory -/
def FC.facts : FC → Prop
  | .int k n => k.min ≤ n ∧ n ≤ k.max
  | .str s => s.length ≤ 281474976710656
  | .sl sz bw n g => n ≤ 140737488355328 ∧ n * bw ≤ 140737488355328 ∧ ∀ i, i < n → ∀ j, j < sz → (g i j).facts
  | _ => True
def NC.facts : NC → Prop
  | .f x => x.facts
  | .uq sz bw n g => n ≤ 140737488355328 ∧ n * bw ≤ 140737488355328 ∧ ∀ i, i < n → ∀ j, j < sz → (g i j).facts
def Cell.facts : Cell → Prop
  | .nc x => x.facts
  | .ip m g => ∀ j, j < m → (g j).facts
  | _ => True
def cellsFacts : List Cell → Prop
  | [] => True
  | c :: r => c.facts ∧ cellsFacts r
def EV.facts : EV → Prop
  | .c x => x.facts
  | .agg cs => cellsFacts cs
  | .u => True
def evsFacts : List EV → Prop
  | [] => True
  | c :: r => c.facts ∧ evsFacts r
def TV.facts : TV → Prop
  | .e x => x.facts
  | .tup l => evsFacts l
  | .wh _ _ _ => True
def Blk.facts : Blk → Prop
  | .var cs => cellsFacts cs
  | .arr sz bw n _ g none => n ≤ 140737488355328 ∧ n * bw ≤ 140737488355328 ∧ ∀ i, i < n → ∀ j, j < sz → (g i j).facts
  | .arr _ bw n _ _ _ => n ≤ 140737488355328 ∧ n * bw ≤ 140737488355328
  | _ => True
def hoFacts : List (Nat × Blk) → Prop
  | [] => True
  | (_, b) :: r => b.facts ∧ hoFacts r
section
variable {w : World} {β : Nat → Option Nat} {ω : Nat → Option (List Nat)}
theorem FC.Rep.facts {fr : Nat → Prop} : ∀ {x : FC} {v : Value}, x.Rep w fr v → x.facts := by
  intro x
  induction x with
  | int k n => intro v h; exact h.2
  | str s => intro v h; exact h.2
  | sl sz bw n g ih =>
    intro v h
    obtain ⟨a, c, _, _, hb, hn, hz, hx⟩ := h
    refine ⟨hn, hb, fun i hi j hj => ?_⟩
    obtain ⟨ad, _, _, _, hc⟩ := hx (by omega)
    obtain ⟨u, _, hr⟩ := hc i hi j hj
    exact ih i j hr
  | _ => intro v _; trivial
theorem NC.Rep.facts : ∀ {x : NC} {p : List Nat} {v : Value}, x.Rep w ω p v → x.facts := by
  intro x
  induction x with
  | f x => intro p v h; exact FC.Rep.facts h
  | uq sz bw n g ih =>
    intro p v h
    obtain ⟨hz, hn, hb, h⟩ := h
    refine ⟨hn, hb, fun i hi j hj => ?_⟩
    rcases h with ⟨h, _⟩ | ⟨b, c, arr, _, _, _, _, _, _, h8⟩
    · omega
    · obtain ⟨u, _, hr⟩ := h8 i hi j hj
      exact ih i j hr
theorem Cell.Rep.facts {x : Cell} {p : List Nat} {v : Value} (h : x.Rep w β ω p v) : x.facts := by
  cases x with
  | nc x => exact NC.Rep.facts h
  | ip m g =>
    obtain ⟨_, ad, _, _, _, hc⟩ := h
    intro j hj
    obtain ⟨u, _, hr⟩ := hc j hj
    exact FC.Rep.facts hr
  | _ => trivial
theorem cellsFacts_of : ∀ {cs : List Cell}, (∀ c ∈ cs, c.facts) → cellsFacts cs
  | [], _ => trivial
  | c :: r, h => ⟨h c (by simp), cellsFacts_of fun d hd => h d (by simp [hd])⟩
theorem evsFacts_of : ∀ {cs : List EV}, (∀ c ∈ cs, c.facts) → evsFacts cs
  | [], _ => trivial
  | c :: r, h => ⟨h c (by simp), evsFacts_of fun d hd => h d (by simp [hd])⟩
theorem EV.Rep.facts {x : EV} {v : Value} (h : x.Rep w β ω v) : x.facts := by
  cases x with
  | c x => exact Cell.Rep.facts h.2
  | agg cs =>
    obtain ⟨arr, _, ⟨_, hc⟩, _⟩ := h
    refine cellsFacts_of fun c hc' => ?_
    obtain ⟨j, hj⟩ := List.getElem?_of_mem hc'
    obtain ⟨u, _, hr⟩ := hc j c hj
    exact Cell.Rep.facts hr
  | u => trivial
theorem TV.Rep.facts {a : Act} {x : TV} {v : Value} (h : x.Rep w β ω a v) : x.facts := by
  cases x with
  | e x => exact EV.Rep.facts h
  | tup l =>
    obtain ⟨vs, _, _, hc⟩ := h
    refine evsFacts_of fun c hc' => ?_
    obtain ⟨j, hj⟩ := List.getElem?_of_mem hc'
    obtain ⟨u, _, hr⟩ := hc j c hj
    exact EV.Rep.facts hr
  | wh s p x => trivial
theorem Blk.Rep.facts {b : Blk} {l : Nat} (h : b.Rep w β ω l) : b.facts := by
  cases b with
  | var cs =>
    obtain ⟨b, arr, _, _, _, _, hc⟩ := h
    refine cellsFacts_of fun c hc' => ?_
    obtain ⟨j, hj⟩ := List.getElem?_of_mem hc'
    obtain ⟨u, _, hr⟩ := hc j c hj
    exact Cell.Rep.facts hr
  | arr sz bw n c g hole =>
    obtain ⟨hz, hb, hn, h⟩ := h
    cases hole with
    | some x => exact ⟨hn, hb⟩
    | none =>
      refine ⟨hn, hb, fun i hi j hj => ?_⟩
      rcases h with ⟨_, h⟩ | ⟨b, arr, _, _, _, _, _, h6⟩
      · omega
      · obtain ⟨u, _, hr⟩ := h6 i hi j hj
        exact Cell.Rep.facts (x := .nc (g i j)) hr
  | _ => trivial
theorem hoFacts_of {H : List (Nat × Blk)} (hd : dupK H = true) (h : ∀ i B, lkH H i = some B → B.Rep w β ω i) : hoFacts H := by
  have key : ∀ {K : List (Nat × Blk)}, (∀ x ∈ K, x ∈ H) → hoFacts K := by
    intro K
    induction K with
    | nil => intro _; trivial
    | cons x r ih =>
      intro hk
      obtain ⟨i, B⟩ := x
      exact ⟨Blk.Rep.facts (h i B (dupK_lk hd (hk _ (by simp)))), ih fun y hy => hk y (by simp [hy])⟩
  exact key fun x hx => hx
end

def zipE : List EV → List EV → Option (List (EV × EV))
  | [], [] => some []
  | x :: r, y :: s => match zipE r s with
    | some l => some ((x, y) :: l)
    | none => none
  | _, _ => none
def renI (m : Pr) (id i : Nat) : Nat := match lkH m i with
  | some l => l
  | none => id + (i - 100)
def okI (m : Pr) (i : Nat) : Bool := match lkH m i with
  | some _ => true
  | none => Nat.ble 100 i && Nat.blt i 116
def edsM (r : Nat → Nat) (H : List (Nat × Blk)) : Pr → Eds
  | [] => []
  | (i, l) :: t => (l, match lkH H i with
    | some B => some (B.ren r)
    | none => none) :: edsM r H t
def edsN (r : Nat → Nat) (m : Pr) : List (Nat × Blk) → Eds
  | [] => []
  | (i, B) :: t => match lkH m i with
    | some _ => edsN r m t
    | none => (r i, some (B.ren r)) :: edsN r m t
def appE : Eds → Eds → Eds
  | [], s => s
  | x :: r, s => x :: appE r s
def outEds (m : Pr) (id : Nat) (H : List (Nat × Blk)) : Eds := appE (edsM (renI m id) H m) (edsN (renI m id) m H)
def lnOk (m : Pr) : List Nat → Bool
  | [] => true
  | l :: r => !(hasV m l) && lnOk m r
def nil? {α : Type} : List α → Bool
  | [] => true
  | _ => false
def flatH (g : Gd) (hp : List (Nat × HE)) : List (Nat × HE) := match g with
  | none => hp
  | some (s, p) => go s p hp
where
  go (s : Nat) (p : Bool) : List (Nat × HE) → List (Nat × HE)
    | [] => []
    | (k, (some (s', p'), b)) :: r => match Nat.beq s s', p, p' with
      | true, true, true => (k, (none, b)) :: go s p r
      | true, false, false => (k, (none, b)) :: go s p r
      | _, _, _ => (k, (some (s', p'), b)) :: go s p r
    | (k, (none, b)) :: r => (k, (none, b)) :: go s p r
def keysLt : Pr → Bool
  | [] => true
  | (i, _) :: r => Nat.blt i 100 && keysLt r
def outR (id l : Nat) : Bool := Nat.blt l id || Nat.ble (id + 16) l
def AS.bdO (σ : AS) (id : Nat) : Bool := tmAll (outR id) σ.tm && hpAll (outR id) σ.hp
def callOk (σ : AS) (id : Nat) (g : Gd) (lend : Bool) (m : Pr) (ln : List Nat) (hin hout : List (Nat × Blk)) (res : TV) : Bool :=
  prOk m && keysIn2 hin m && lnOk m ln && (lend || nil? ln) && σ.bdO id && (isNone g || nil? m) && res.all (okI m) && hoAll (okI m) hout && dupK (outEds m id hout) && dupK hout && keysLt m
def factsIf (b : Bool) (p : Prop) : Prop := match b with
  | true => p
  | false => True
theorem factsIf_of {b : Bool} {p : Prop} (h : p) : factsIf b p := by cases b <;> first | exact h | trivial
def stCall (fx : Bool) (σ : AS) (id : Nat) (g : Gd) (S : FSpec) (xs : List EV) (F : TV → Eds → Prop) : Prop :=
  ∃ d, match zipE xs (S.args d) with
    | some ps => match scanH (flatH g σ.hp) (scanEs ([], []) ps) (S.hin d) with
      | (m, ln) => match callOk σ id g S.lend m ln (S.hin d) (S.hout d) (S.res d) with
        | true => (obG σ g (S.pre d) ∧ mtEs (flatH g σ.hp) m ln ps ∧ mtH (flatH g σ.hp) m ln (S.hin d)) ∧ (factsIf (fx && isNone g) (TV.facts (S.res d) ∧ hoFacts (S.hout d)) → F ((S.res d).ren (renI m id)) (outEds m id (S.hout d)))
        | false => False
    | none => False
def capE (l : Nat) : EV := .c (.ptr l 0 0 0)

/-! Its soundness. -/
theorem lkH_flat {g : Gd} {hp : List (Nat × HE)} {l : Nat} {b : Blk} (h : lkH (flatH g hp) l = some (none, b)) : ∃ t, lkH hp l = some (t, b) ∧ (t = none ∨ t = g) := by
  cases g with
  | none => exact ⟨none, h, .inl rfl⟩
  | some sp =>
    obtain ⟨s, p⟩ := sp
    simp only [flatH] at h
    induction hp with
    | nil => cases h
    | cons x r ih =>
      obtain ⟨k, t, b'⟩ := x
      cases t with
      | none =>
        simp only [flatH.go, lkH] at h ⊢
        cases hb : Nat.beq k l with
        | true => rw [hb] at h; injection h with h; injection h with _ h; subst h; exact ⟨none, rfl, .inl rfl⟩
        | false => rw [hb] at h; exact ih h
      | some sp' =>
        obtain ⟨s', p'⟩ := sp'
        simp only [flatH.go] at h
        split at h
        · rename_i h1
          have h1 := Nat.eq_of_beq_eq_true h1
          subst h1
          simp only [lkH] at h ⊢
          cases hb : Nat.beq k l with
          | true => rw [hb] at h; injection h with h; injection h with _ h; subst h; exact ⟨_, rfl, .inr rfl⟩
          | false => rw [hb] at h; exact ih h
        · rename_i h1
          have h1 := Nat.eq_of_beq_eq_true h1
          subst h1
          simp only [lkH] at h ⊢
          cases hb : Nat.beq k l with
          | true => rw [hb] at h; injection h with h; injection h with _ h; subst h; exact ⟨_, rfl, .inr rfl⟩
          | false => rw [hb] at h; exact ih h
        · simp only [lkH] at h ⊢
          cases hb : Nat.beq k l with
          | true => rw [hb] at h; cases h
          | false => rw [hb] at h; exact ih h
theorem zipE_len : ∀ {xs ys : List EV} {ps : List (EV × EV)}, zipE xs ys = some ps → ps.length = xs.length ∧ ps.length = ys.length ∧ ∀ (k : Nat) (y : EV), ys[k]? = some y → ∃ x, xs[k]? = some x ∧ ps[k]? = some (x, y)
  | [], [], ps, h => by
    simp only [zipE, Option.some.injEq] at h
    subst h
    exact ⟨rfl, rfl, fun k y e => by simp at e⟩
  | x :: r, y :: s, ps, h => by
    simp only [zipE] at h
    split at h
    · rename_i l hl
      injection h with h
      subst h
      obtain ⟨h1, h2, h3⟩ := zipE_len hl
      refine ⟨by simp [h1], by simp [h2], fun k z e => ?_⟩
      cases k with
      | zero => simp only [List.getElem?_cons_zero, Option.some.injEq] at e; subst e; exact ⟨x, rfl, rfl⟩
      | succ k => simp only [List.getElem?_cons_succ] at e ⊢; exact h3 k z e
    · cases h
  | [], _ :: _, ps, h => by simp [zipE] at h
  | _ :: _, [], ps, h => by simp [zipE] at h
theorem mtEs_get {hp : List (Nat × HE)} {m : Pr} {ln : List Nat} : ∀ {ps : List (EV × EV)}, mtEs hp m ln ps → ∀ (k : Nat) (x y : EV), ps[k]? = some (x, y) → mtE hp m ln x y
  | [], _, k, x, y, e => by simp at e
  | (x', y') :: r, h, 0, x, y, e => by
    simp only [List.getElem?_cons_zero, Option.some.injEq, Prod.mk.injEq] at e
    obtain ⟨rfl, rfl⟩ := e
    exact h.1
  | _ :: r, h, k + 1, x, y, e => mtEs_get h.2 k x y (by simpa using e)
theorem mem_appE {x : Nat × Option Blk} : ∀ {r s : Eds}, x ∈ appE r s ↔ x ∈ r ∨ x ∈ s
  | [], s => by simp [appE]
  | y :: r, s => by simp only [appE, List.mem_cons, mem_appE (r := r), or_assoc]
theorem mem_edsM {r : Nat → Nat} {H : List (Nat × Blk)} {x : Nat × Option Blk} : ∀ {m : Pr}, x ∈ edsM r H m ↔ ∃ i l, (i, l) ∈ m ∧ x = (l, match lkH H i with
    | some B => some (B.ren r)
    | none => none)
  | [] => by simp [edsM]
  | (i, l) :: t => by
    simp only [edsM, List.mem_cons, mem_edsM (m := t)]
    constructor
    · rintro (h | ⟨i', l', h1, h2⟩)
      · exact ⟨i, l, .inl rfl, h⟩
      · exact ⟨i', l', .inr h1, h2⟩
    · rintro ⟨i', l', h1 | h1, h2⟩
      · injection h1 with e1 e2; subst e1 e2; exact .inl h2
      · exact .inr ⟨i', l', h1, h2⟩
theorem mem_edsN {r : Nat → Nat} {m : Pr} {x : Nat × Option Blk} : ∀ {H : List (Nat × Blk)}, x ∈ edsN r m H ↔ ∃ i B, (i, B) ∈ H ∧ lkH m i = none ∧ x = (r i, some (B.ren r))
  | [] => by simp [edsN]
  | (i, B) :: t => by
    simp only [edsN]
    cases hl : lkH m i with
    | some l =>
      simp only [mem_edsN (H := t), List.mem_cons]
      constructor
      · rintro ⟨i', B', h1, h2, h3⟩; exact ⟨i', B', .inr h1, h2, h3⟩
      · rintro ⟨i', B', h1 | h1, h2, h3⟩
        · injection h1 with e1 e2; subst e1 e2; rw [hl] at h2; cases h2
        · exact ⟨i', B', h1, h2, h3⟩
    | none =>
      simp only [List.mem_cons, mem_edsN (H := t)]
      constructor
      · rintro (h | ⟨i', B', h1, h2, h3⟩)
        · exact ⟨i, B, .inl rfl, hl, h⟩
        · exact ⟨i', B', .inr h1, h2, h3⟩
      · rintro ⟨i', B', h1 | h1, h2, h3⟩
        · injection h1 with e1 e2; subst e1 e2; exact .inl h3
        · exact .inr ⟨i', B', h1, h2, h3⟩
theorem prOk_lk {m : Pr} (hm : prOk m = true) {i l : Nat} (h : (i, l) ∈ m) : lkH m i = some l := by
  induction m with
  | nil => cases h
  | cons x r ih =>
    obtain ⟨k, v⟩ := x
    simp only [prOk, Bool.and_eq_true] at hm
    simp only [lkH]
    cases h with
    | head => simp
    | tail _ hm' =>
      have := ih hm.2 hm'
      cases hb : Nat.beq k i with
      | true =>
        have e := Nat.eq_of_beq_eq_true hb
        subst e
        rw [lkH_hasK this] at hm
        cases hm.1.1
      | false => exact this
theorem lnOk_mem {m : Pr} {ln : List Nat} (h : lnOk m ln = true) {l : Nat} (hl : hasN ln l = true) : hasV m l = false := by
  induction ln with
  | nil => cases hl
  | cons x r ih =>
    simp only [lnOk, Bool.and_eq_true] at h
    simp only [hasN] at hl
    cases hb : Nat.beq x l with
    | true =>
      have e := Nat.eq_of_beq_eq_true hb
      subst e
      have := h.1
      simpa using this
    | false => rw [hb] at hl; exact ih h.2 hl
theorem hoAll_lk {f : Nat → Bool} {H : List (Nat × Blk)} (h : hoAll f H = true) {i : Nat} {B : Blk} (hl : lkH H i = some B) : f i = true ∧ B.all f = true := by
  induction H with
  | nil => cases hl
  | cons x r ih =>
    obtain ⟨k, v⟩ := x
    simp only [hoAll, Bool.and_eq_true] at h
    simp only [lkH] at hl
    cases hb : Nat.beq k i with
    | true =>
      rw [hb] at hl
      injection hl with hl
      subst hl
      have e := Nat.eq_of_beq_eq_true hb
      subst e
      exact h.1
    | false => rw [hb] at hl; exact ih h.2 hl
end Go.Ice
end
