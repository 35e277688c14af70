/-
  Part of the proof of: The law DevAppends returns true at every input and leaves its arguments as they were. Conditions: those of the given row alone; no hypothesis is added.
-/
import Derived.Test.YtkfdhgfeidjaiaaIce3
import Derived.WalkKit
import Derived.ProofKit
import Derived.OpenShut
section
set_option linter.unusedVariables false
set_option linter.unusedSimpArgs false
namespace Go.Ice
section
variable {P : Program} {T : Nat → TI} {Γ : Nat → FSpec} {all : List Oper} {B : List (List Nat)} {cl : List (Nat × TV)} {nt id0 : Nat}
abbrev stAt (B : List (List Nat)) (cl : List (Nat × TV)) (nt i : Nat) (V : VL) (H : List (Nat × HE)) : AS := { tm := filtV (B.getD i []) V cl, hp := H, nx := 0, nt := nt }
structure OpF (T : Nat → TI) (Γ : Nat → FSpec) (all : List Oper) (B : List (List Nat)) (cl : List (Nat × TV)) (nt id0 : Nat) (V : VL) (E : List Nat) (acc : Acs) (hf : Nat → List (Nat × HE)) (i : Nat) (o : Oper) (g : Gd) (v : TV) (es : Eds) (Vi : VL) : Prop where
  gd : gdOf all o.guard = some g
  at_ : acc[i]? = some (v, es)
  sub : ∀ x ∈ Vi, x ∈ V
  dst : dstOk (stAt B cl nt i Vi (hf i)) g o.dst = true
  step : step T Γ false (stAt B cl nt i Vi (hf i)) (id0 + 16 * i) g o (fun v' es' => v' = v ∧ es' = es)
  eds : gEds g (id0 + 16 * i) es = true
  ids : (stored g v).all (idf id0 (i :: B.getD i [])) = true
  chain : es ≠ [] → ∀ e ∈ E, e < i → e ∈ B.getD i []
  next : hf (i + 1) = edH (id0 + 16 * i) g (hf i) es
  here : ∀ d, o.dst = some d → (i, d, stored g v) ∈ V
  eff : es ≠ [] ↔ i ∈ E
structure Part (T : Nat → TI) (Γ : Nat → FSpec) (all : List Oper) (B : List (List Nat)) (cl : List (Nat × TV)) (nt id0 : Nat) (H0 : List (Nat × HE)) (i : Nat) (V : VL) (H : List (Nat × HE)) (SL : SLs) (E : List Nat) (acc : Acs) (hf : Nat → List (Nat × HE)) : Prop where
  h0 : hf 0 = H0
  hi : hf i = H
  len : acc.length = i
  ops : ∀ j o, j < i → all[j]? = some o → ∃ g v es Vi, OpF T Γ all B cl nt id0 V E acc hf j o g v es Vi
  elt : ∀ e ∈ E, e < i
  vok : ∀ k d x, (k, d, x) ∈ V → k < i ∧ ∃ o g v es, all[k]? = some o ∧ o.dst = some d ∧ gdOf all o.guard = some g ∧ acc[k]? = some (v, es) ∧ x = stored g v
  sl : ∀ t Ht, (t, Ht) ∈ SL → t ≤ i ∧ Ht = hf t
  sl0 : (0, H0) ∈ SL
  slE : ∀ e ∈ E, (e + 1, hf (e + 1)) ∈ SL

theorem hasAll_mem {bs : List Nat} : ∀ {es : List Nat}, hasAll bs es = true → ∀ e ∈ es, e ∈ bs
  | [], _, e, he => by cases he
  | x :: r, h, e, he => by
    simp only [hasAll, Bool.and_eq_true] at h
    cases he with
    | head => exact (hasN_iff _ _).1 h.1
    | tail _ he => exact hasAll_mem h.2 e he

theorem drGo_facts {H0 : List (Nat × HE)} {K : VL → List (Nat × HE) → SLs → List Nat → Acs → Prop} : ∀ (l : List Oper) (i : Nat) {V : VL} {H : List (Nat × HE)} {SL : SLs} {E : List Nat} {acc : Acs} {hf : Nat → List (Nat × HE)}, all.drop i = l → i + l.length = all.length →
    Part T Γ all B cl nt id0 H0 i V H SL E acc hf → drGo T Γ all B cl nt id0 l i V H SL E acc K → ∃ V' H' SL' E' acc' hf', Part T Γ all B cl nt id0 H0 all.length V' H' SL' E' acc' hf' ∧ K V' H' SL' E' acc'
  | [], i, V, H, SL, E, acc, hf, hl, hn, hp, h => ⟨V, H, SL, E, acc, hf, by rw [← hn]; simpa using hp, h⟩
  | o :: r, i, V, H, SL, E, acc, hf, hl, hn, hp, h => by
    have ho : all[i]? = some o := by
      have : (all.drop i)[0]? = some o := by rw [hl]; rfl
      rw [List.getElem?_drop] at this
      simpa using this
    have hr : all.drop (i + 1) = r := by
      have : (all.drop i).tail = r := by rw [hl]; rfl
      rw [List.tail_drop] at this
      exact this
    simp only [drGo] at h
    split at h
    · rename_i g hg
      split at h
      · rename_i hd
        obtain ⟨v, es, hF, hst⟩ := step_yld (.inl rfl) _ h
        split at hF
        · rename_i hck
          simp only [Bool.and_eq_true, Bool.or_eq_true] at hck
          obtain ⟨⟨c1, c2⟩, c3⟩ := hck
          let H' := edH (id0 + 16 * i) g H es
          let hf' : Nat → List (Nat × HE) := fun k => if k = i + 1 then H' else hf k
          have hf'o : ∀ k, k ≤ i → hf' k = hf k := fun k hk => by simp only [hf']; rw [if_neg (by omega)]
          have hf'n : hf' (i + 1) = H' := by simp [hf']
          have hVsub : ∀ x ∈ V, x ∈ pushV o.dst i (stored g v) V := fun x hx => by
            unfold pushV
            split
            · exact .tail _ hx
            · exact hx
          have hEsub : ∀ e, e ∈ pushE es i E ↔ e ∈ E ∨ (es ≠ [] ∧ e = i) := fun e => by
            cases es with
            | nil => simp [pushE]
            | cons x s => simp [pushE, or_comm]
          have hnotE : i ∉ E := fun hm => absurd (hp.elt i hm) (by omega)
          have haccO : ∀ k x, acc[k]? = some x → (acc ++ [(v, es)])[k]? = some x := fun k x hk => by
            have hlt := (List.getElem?_eq_some_iff.1 hk).1
            rw [List.getElem?_append_left hlt]
            exact hk
          have haccN : (acc ++ [(v, es)])[i]? = some (v, es) := by
            rw [List.getElem?_append_right (by rw [hp.len]; omega), hp.len]
            simp
          refine drGo_facts r (i + 1) (hf := hf') hr (by simp at hn; omega) ?_ hF
          refine ⟨by rw [hf'o 0 (by omega)]; exact hp.h0, hf'n, by simp [hp.len], fun j o' hj ho' => ?_, fun e he => ?_, fun k d x hx => ?_, fun t Ht ht => ?_, ?_, fun e he => ?_⟩
          · by_cases hji : j = i
            · subst hji
              rw [ho] at ho'
              injection ho' with ho'
              subst ho'
              refine ⟨g, v, es, V, hg, haccN, hVsub, ?_, ?_, c1, c2, fun hne e he hlt => ?_, ?_, fun d hdd => ?_, ?_⟩
              · rw [hf'o j (by omega), hp.hi]; exact hd
              · rw [hf'o j (by omega), hp.hi]; exact hst
              · rcases (hEsub e).1 he with he | ⟨_, he⟩
                · rcases c3 with c3 | c3
                  · cases es with
                    | nil => exact absurd rfl hne
                    | cons => cases c3
                  · exact hasAll_mem c3 e he
                · omega
              · rw [hf'n, hf'o j (by omega), hp.hi]
              · simp only [pushV, hdd]; exact .head _
              · rw [hEsub]
                exact ⟨fun h => .inr ⟨h, rfl⟩, fun h => h.elim (fun h => absurd h hnotE) (·.1)⟩
            · obtain ⟨g', v', es', Vi, q⟩ := hp.ops j o' (by omega) ho'
              refine ⟨g', v', es', Vi, q.gd, haccO _ _ q.at_, fun x hx => hVsub x (q.sub x hx), ?_, ?_, q.eds, q.ids, fun hne e he hlt => ?_, ?_, fun d hdd => hVsub _ (q.here d hdd), ?_⟩
              · rw [hf'o j (by omega)]; exact q.dst
              · rw [hf'o j (by omega)]; exact q.step
              · rcases (hEsub e).1 he with he | ⟨_, he⟩
                · exact q.chain hne e he hlt
                · omega
              · rw [hf'o (j + 1) (by omega), hf'o j (by omega)]; exact q.next
              · rw [hEsub, q.eff]
                exact ⟨.inl, fun h => h.elim id (fun h => absurd h.2 hji)⟩
          · rcases (hEsub e).1 he with he | ⟨_, he⟩
            · have := hp.elt e he; omega
            · omega
          · have old : (k, d, x) ∈ V → k < i + 1 ∧ ∃ o g_1 v_1 es_1, all[k]? = some o ∧ o.dst = some d ∧ gdOf all o.guard = some g_1 ∧ (acc ++ [(v, es)])[k]? = some (v_1, es_1) ∧ x = stored g_1 v_1 := fun hx => by
              obtain ⟨h1, o1, g1, v1, es1, k1, k2, k3, k4, k5⟩ := hp.vok k d x hx
              exact ⟨by omega, o1, g1, v1, es1, k1, k2, k3, haccO _ _ k4, k5⟩
            unfold pushV at hx
            split at hx
            · rename_i d' hdd
              cases hx with
              | head => exact ⟨by omega, o, g, v, es, ho, hdd, hg, haccN, rfl⟩
              | tail _ hx => exact old hx
            · exact old hx
          · have old : (t, Ht) ∈ SL → t ≤ i + 1 ∧ Ht = hf' t := fun ht => by
              obtain ⟨h1, h2⟩ := hp.sl t Ht ht
              exact ⟨by omega, by rw [hf'o t h1]; exact h2⟩
            unfold pushS at ht
            split at ht
            · exact old ht
            · cases ht with
              | head => exact ⟨by omega, hf'n.symm⟩
              | tail _ ht => exact old ht
          · unfold pushS
            split
            · exact hp.sl0
            · exact .tail _ hp.sl0
          · rcases (hEsub e).1 he with he | ⟨hne, he⟩
            · have h1 := hp.slE e he
              have h2 := hp.elt e he
              rw [hf'o (e + 1) (by omega)]
              unfold pushS
              split
              · exact h1
              · exact .tail _ h1
            · subst he
              rw [hf'n]
              cases es with
              | nil => exact absurd rfl hne
              | cons x s => exact .head _
        · exact hF.elim
      · exact h.elim
    · exact h.elim

theorem drStages_get {V : VL} {E : List Nat} {i : Nat} {o : Oper} {v : TV} : ∀ {SL : SLs}, drStages T Γ all B cl nt id0 V E i o v SL → ∀ t H, (t, H) ∈ SL → stageOk B i t E = true → stageIs i t E = false →
    ∃ g, gdOf all o.guard = some g ∧ dstOk (stAt B cl nt i V H) g o.dst = true ∧ step T Γ false (stAt B cl nt i V H) (id0 + 16 * i) g o (fun v' es' => v' = v ∧ es' = [])
  | [], _, t, H, h, _, _ => by cases h
  | (t', H') :: r, hs, t, H, h, h1, h2 => by
    obtain ⟨hs1, hs2⟩ := hs
    cases h with
    | head =>
      simp only [h1, h2, Bool.not_false, Bool.and_self] at hs1
      split at hs1
      · rename_i g hg
        exact ⟨g, hg, hs1⟩
      · exact hs1.elim
    | tail _ h => exact drStages_get hs2 t H h h1 h2
theorem drSnd_get {V : VL} {E : List Nat} {SL : SLs} : ∀ {l : List Oper} {i : Nat} {acc : Acs}, drSnd T Γ all B cl nt id0 V E SL l i acc → ∀ (k : Nat) (o : Oper) (v : TV), l[k]? = some o → acc[k]? = some (v, []) → drStages T Γ all B cl nt id0 V E (i + k) o v SL
  | [], i, acc, _, k, o, v, h, _ => by simp at h
  | o' :: r, i, [], _, k, o, v, _, h => by simp at h
  | o' :: r, i, (v', es) :: s, hs, 0, o, v, h1, h2 => by
    simp only [List.getElem?_cons_zero, Option.some.injEq, Prod.mk.injEq] at h1 h2
    obtain ⟨rfl, rfl⟩ := h2
    subst h1
    exact hs.1
  | o' :: r, i, (v', es) :: s, hs, k + 1, o, v, h1, h2 => by
    have := drSnd_get hs.2 k o v (by simpa using h1) (by simpa using h2)
    rw [show i + 1 + k = i + (k + 1) by omega] at this
    exact this
theorem stageOk_of {i t : Nat} : ∀ {E : List Nat}, (∀ e ∈ E, e < t → i ∉ B.getD e []) → (∀ e ∈ E, t ≤ e → e ∉ B.getD i []) → stageOk B i t E = true
  | [], _, _ => rfl
  | e :: r, h1, h2 => by
    simp only [stageOk, Bool.and_eq_true]
    refine ⟨?_, stageOk_of (fun x hx => h1 x (.tail _ hx)) (fun x hx => h2 x (.tail _ hx))⟩
    cases hb : Nat.blt e t with
    | true =>
      have := h1 e (.head _) (by simpa using hb)
      simp only [Bool.not_eq_true']
      cases hh : hasN (B.getD e []) i with
      | false => rfl
      | true => exact absurd ((hasN_iff _ _).1 hh) this
    | false =>
      have hle : t ≤ e := by
        by_cases hlt : e < t
        · have : Nat.blt e t = true := by simpa using hlt
          rw [this] at hb; cases hb
        · omega
      have := h2 e (.head _) hle
      simp only [Bool.not_eq_true']
      cases hh : hasN (B.getD i []) e with
      | false => rfl
      | true => exact absurd ((hasN_iff _ _).1 hh) this
theorem stageIs_iff {i t : Nat} : ∀ {E : List Nat}, stageIs i t E = true → ∀ e ∈ E, (e < t ↔ e < i)
  | [], _, e, he => by cases he
  | x :: r, h, e, he => by
    simp only [stageIs, Bool.and_eq_true] at h
    cases he with
    | tail _ he => exact stageIs_iff h.2 e he
    | head =>
      have h1 := h.1
      have bt : ∀ a b : Nat, (a < b ↔ Nat.blt a b = true) := fun a b => by simp
      rw [bt, bt]
      cases hx : Nat.blt x t <;> cases hy : Nat.blt x i <;> rw [hx, hy] at h1 <;> simp_all
end
end Go.Ice
end

section
set_option linter.unusedVariables false
set_option linter.unusedSimpArgs false
namespace Go.Ice
section
variable {P : Program} {T : Nat → TI} {Γ : Nat → FSpec} {all : List Oper} {B : List (List Nat)} {cl : List (Nat × TV)} {nt id0 : Nat}
variable {a : Act} {w : World} {β : Nat → Option Nat} {ω : Nat → Option (List Nat)}

theorem filt_rep {x : TV} {v : Value} (s : List Nat) (h : x.Rep w β ω a v) : (filt s x).Rep w β ω a v := by
  cases x with
  | wh t p y =>
    simp only [filt]
    split
    · trivial
    · exact h
  | _ => exact h
theorem lkGo_rep {tm : List (Nat × TV)} {j : Nat} {v : Value} (h : (lkT tm j).Rep w β ω a v) (s : List Nat) : (lkGo tm j s).Rep w β ω a v := by
  have := lkGo_filt tm j [] s
  rw [List.nil_append] at this
  rw [this]
  exact filt_rep s h
theorem filtV_rep {bs : List Nat} (hcl : ∀ j, (lkT cl j).Rep w β ω a (a.tmps.getD j undef)) : ∀ {V : VL}, (∀ k d x, (k, d, x) ∈ V → k ∈ bs → x.Rep w β ω a (a.tmps.getD d undef)) → ∀ j s, (lkGo (filtV bs V cl) j s).Rep w β ω a (a.tmps.getD j undef)
  | [], _, j, s => lkGo_rep (hcl j) s
  | (k, d, x) :: r, hV, j, s => by
    have ih := filtV_rep hcl (V := r) (fun k d x hm hb => hV k d x (.tail _ hm) hb) j
    simp only [filtV]
    split
    · rename_i hb
      simp only [lkGo]
      cases hd : Nat.beq d j with
      | true =>
        have := Nat.eq_of_beq_eq_true hd
        subst this
        exact filt_rep s (hV k d x (.head _) ((hasN_iff _ _).1 hb))
      | false => exact ih _
    · exact ih s
theorem allV_rep (hcl : ∀ j, (lkT cl j).Rep w β ω a (a.tmps.getD j undef)) : ∀ {V : VL}, (∀ k d x, (k, d, x) ∈ V → x.Rep w β ω a (a.tmps.getD d undef)) → ∀ j s, (lkGo (allV V cl) j s).Rep w β ω a (a.tmps.getD j undef)
  | [], _, j, s => lkGo_rep (hcl j) s
  | (k, d, x) :: r, hV, j, s => by
    have ih := allV_rep hcl (V := r) (fun k d x hm => hV k d x (.tail _ hm)) j
    simp only [allV, lkGo]
    cases hd : Nat.beq d j with
    | true =>
      have := Nat.eq_of_beq_eq_true hd
      subst this
      exact filt_rep s (hV k d x (.head _))
    | false => exact ih _

def notWh : TV → Prop
  | .wh _ _ _ => False
  | _ => True
theorem TV.Rep.anyAct {x : TV} {v : Value} (hx : notWh x) (h : x.Rep w β ω a v) (a' : Act) : x.Rep w β ω a' v := by
  cases x with
  | wh s p y => exact hx.elim
  | _ => exact h

theorem Oper.wp_put {o : Oper} {a : Act} {w : World} {K : Act → World → Prop} (hd : ∀ a w, K a w → a.defers = []) (hh : o.wp P a w K (fun _ _ _ => False)) : o.wp P a w (fun a' w' => K a' w' ∧ ∃ v, a' = a.put o.dst v) (fun _ _ _ => False) := by
  unfold Oper.wp at *
  generalize (execOp a.eval o).run P w = r at *
  cases r with
  | ok n w' =>
    cases n <;> simp only [Oper.upon] at hh ⊢ <;>
      first
        | exact ⟨hh, _, rfl⟩
        | exact Calls.mono hh (fun e w'' he => by
            cases e with
            | returned v => exact ⟨he, _, rfl⟩
            | panicked c => exact he
            | outgrown => exact he)
        | exact Rows.mono hh (fun _ _ he => ⟨he, _, rfl⟩)
        | exact hh
        | (have := hd _ _ hh
           cases hdd : o.dst <;> simp [hdd, Act.put] at this)
  | halt x w' => cases x <;> simp only [Oper.upon] at hh ⊢ <;> exact hh

def cntU (listed : Array Bool) : Nat → Nat
  | 0 => 0
  | k + 1 => cntU listed k + (if listed.getD k false = true then 0 else 1)
theorem cntU_le {listed : Array Bool} {i : Nat} : ∀ n, cntU (listed.setIfInBounds i true) n ≤ cntU listed n
  | 0 => Nat.le_refl _
  | k + 1 => by
    have ih := cntU_le (listed := listed) (i := i) k
    simp only [cntU]
    by_cases h : listed.getD k false = true
    · rw [if_pos h, if_pos (getD_set_true h)]; omega
    · rw [if_neg h]
      split <;> omega
theorem cntU_lt {listed : Array Bool} {i : Nat} (hi : i < listed.size) (hl : listed.getD i false = false) : ∀ n, i < n → cntU (listed.setIfInBounds i true) n < cntU listed n
  | 0, h => by omega
  | k + 1, h => by
    simp only [cntU]
    by_cases e : k = i
    · subst e
      have h1 := cntU_le (listed := listed) (i := k) k
      have h2 : (listed.setIfInBounds k true).getD k false = true := by simp [Array.getD_eq_getD_getElem?, hi]
      rw [if_pos h2, if_neg (by rw [hl]; simp)]
      omega
    · have ih := cntU_lt hi hl k (by omega)
      have : (listed.setIfInBounds i true).getD k false = listed.getD k false := getD_set_ne false (fun e' => e e'.symm)
      rw [this]
      omega
theorem cntU_zero {listed : Array Bool} : ∀ {n : Nat}, cntU listed n = 0 → ∀ i, i < n → listed.getD i false = true
  | 0, _, i, h => by omega
  | k + 1, hc, i, h => by
    simp only [cntU] at hc
    by_cases e : listed.getD k false = true
    · rw [if_pos e] at hc
      by_cases hik : i = k
      · subst hik; exact e
      · exact cntU_zero hc i (by omega)
    · rw [if_neg e] at hc; omega
theorem stage_pick {E : List Nat} : ∀ s, ∃ t, t ≤ s ∧ (t = 0 ∨ ∃ e ∈ E, t = e + 1) ∧ ∀ e ∈ E, (e < t ↔ e < s)
  | 0 => ⟨0, Nat.le_refl _, .inl rfl, fun e _ => Iff.rfl⟩
  | s + 1 => by
    by_cases h : s ∈ E
    · exact ⟨s + 1, Nat.le_refl _, .inr ⟨s, h, rfl⟩, fun e _ => Iff.rfl⟩
    · obtain ⟨t, h1, h2, h3⟩ := stage_pick (E := E) s
      refine ⟨t, by omega, h2, fun e he => ?_⟩
      rw [h3 e he]
      have : e ≠ s := fun e' => h (by rw [← e']; exact he)
      omega

structure Stat (ops : Array Oper) (all : List Oper) (B : List (List Nat)) : Prop where
  eqs : all = ops.toList
  bef : ∀ i o, all[i]? = some o → ∀ y ∈ B.getD i [], ∃ e ∈ o.after.toList, Region.binds .any e = true ∧ (y = e.on ∨ y ∈ B.getD e.on [])
  lt : ∀ i o, all[i]? = some o → ∀ e ∈ o.after.toList, Region.binds .any e = true → e.on < i
  gd : ∀ i o, all[i]? = some o → gdIn (B.getD i []) o.guard = true
  inj : ∀ (i j : Nat) (o o' : Oper) (d : Nat), all[i]? = some o → all[j]? = some o' → o.dst = some d → o'.dst = some d → i = j
structure ClOk (all : List Oper) (cl : List (Nat × TV)) (id0 : Nat) : Prop where
  dst : ∀ j, hasN (dstsOf all) j = true → lkT cl j = .e .u
  wh : ∀ j, notWh (lkT cl j)
  ids : ∀ j l, id0 ≤ l → (lkT cl j).no l = true
structure Inv (all : List Oper) (B : List (List Nat)) (cl : List (Nat × TV)) (nt : Nat) (V : VL) (E : List Nat) (hf : Nat → List (Nat × HE)) (listed : Array Bool) (s : Nat) (a : Act) (w : World) (β : Nat → Option Nat) (ω : Nat → Option (List Nat)) : Prop where
  sz : listed.size = all.length
  closed : ∀ i o, all[i]? = some o → listed.getD i false = true → ∀ e ∈ o.after.toList, Region.binds .any e = true → listed.getD e.on false = true
  stage : ∀ e ∈ E, (listed.getD e false = true ↔ e < s)
  sle : s ≤ all.length
  nt : a.tmps.size = nt
  df : a.defers = []
  tmC : ∀ j, (lkT cl j).Rep w β ω a (a.tmps.getD j undef)
  tmD : ∀ k d x, (k, d, x) ∈ V → listed.getD k false = true → x.Rep w β ω a (a.tmps.getD d undef)
  hp : ∀ l g b, lkH (hf s) l = some (g, b) → gTrue a g → b.Rep w β ω l
  cl : ∀ b l p, ω b = some (l :: p) → ∃ e, lkH (hf s) l = some e
  lt : ∀ b p, ω b = some p → b < w.heap.size

theorem bef_listed {ops : Array Oper} (st : Stat ops all B) {listed : Array Bool} (hc : ∀ i o, all[i]? = some o → listed.getD i false = true → ∀ e ∈ o.after.toList, Region.binds .any e = true → listed.getD e.on false = true) :
    ∀ i o, all[i]? = some o → (∀ e ∈ o.after.toList, Region.binds .any e = true → listed.getD e.on false = true) → ∀ y ∈ B.getD i [], listed.getD y false = true := by
  intro i
  induction i using Nat.strongRecOn with
  | _ i ih =>
    intro o ho he y hy
    obtain ⟨e, h1, h2, h3⟩ := st.bef i o ho y hy
    rcases h3 with rfl | h3
    · exact he e h1 h2
    · have hlt := st.lt i o ho e h1 h2
      cases ho' : all[e.on]? with
      | none =>
        have h4 := (List.getElem?_eq_some_iff.1 ho).1
        have h5 := List.getElem?_eq_none_iff.1 ho'
        omega
      | some o' => exact ih e.on hlt o' ho' (hc e.on o' ho' (he e h1 h2)) y h3

theorem hf_eq {H0 : List (Nat × HE)} {V : VL} {H : List (Nat × HE)} {SL : SLs} {E : List Nat} {acc : Acs} {hf : Nat → List (Nat × HE)} (hp : Part T Γ all B cl nt id0 H0 all.length V H SL E acc hf) :
    ∀ k s, s + k ≤ all.length → (∀ e ∈ E, ¬ (s ≤ e ∧ e < s + k)) → hf (s + k) = hf s
  | 0, s, _, _ => rfl
  | k + 1, s, hle, hE => by
    have ih := hf_eq hp k s (by omega) (fun e he h => hE e he ⟨h.1, by omega⟩)
    cases ho : all[s + k]? with
    | none => have := List.getElem?_eq_none_iff.1 ho; omega
    | some o =>
      obtain ⟨g, v, es, Vi, q⟩ := hp.ops (s + k) o (by omega) ho
      have hes : es = [] := by
        cases hes : es with
        | nil => rfl
        | cons x r =>
          have := q.eff.1 (by rw [hes]; rintro ⟨⟩)
          exact absurd ⟨by omega, by omega⟩ (hE _ this)
      have := q.next
      rw [hes] at this
      rw [show s + (k + 1) = s + k + 1 by omega, this]
      exact ih
theorem hf_eq' {H0 : List (Nat × HE)} {V : VL} {H : List (Nat × HE)} {SL : SLs} {E : List Nat} {acc : Acs} {hf : Nat → List (Nat × HE)} (hp : Part T Γ all B cl nt id0 H0 all.length V H SL E acc hf) {s t : Nat} (hs : s ≤ all.length) (ht : t ≤ all.length)
    (h : ∀ e ∈ E, (e < s ↔ e < t)) : hf s = hf t := by
  rcases Nat.le_total s t with hst | hst
  · obtain ⟨k, rfl⟩ := Nat.exists_eq_add_of_le hst
    exact (hf_eq hp k s ht (fun e he hh => by have := h e he; omega)).symm
  · obtain ⟨k, rfl⟩ := Nat.exists_eq_add_of_le hst
    exact hf_eq hp k t hs (fun e he hh => by have := h e he; omega)
end
end Go.Ice
end

section
set_option linter.unusedVariables false
set_option linter.unusedSimpArgs false
namespace Go.Ice
section
variable {P : Program} {T : Nat → TI} {Γ : Nat → FSpec} {all : List Oper} {B : List (List Nat)} {cl : List (Nat × TV)} {nt id0 : Nat}
variable {H0 : List (Nat × HE)} {V : VL} {H : List (Nat × HE)} {SL : SLs} {E : List Nat} {acc : Acs} {hf : Nat → List (Nat × HE)}

/-- What is known of the operation that comes next, at the stage that we stand at. -/
theorem inv_op {ops : Array Oper} (st : Stat ops all B) (hp : Part T Γ all B cl nt id0 H0 all.length V H SL E acc hf) (hsnd : nil?' E (drSnd T Γ all B cl nt id0 V E SL all 0 acc)) {listed : Array Bool} {s : Nat} {a : Act} {w : World} {β : Nat → Option Nat} {ω : Nat → Option (List Nat)}
    (inv : Inv all B cl nt V E hf listed s a w β ω) {i : Nat} {o : Oper} (ho : all[i]? = some o) (hl : listed.getD i false = false) (he : ∀ e ∈ o.after.toList, Region.binds .any e = true → listed.getD e.on false = true) :
    ∃ g v es Vi V', OpF T Γ all B cl nt id0 V E acc hf i o g v es Vi ∧ (∀ x ∈ V', x ∈ V) ∧ dstOk (stAt B cl nt i V' (hf s)) g o.dst = true ∧ step T Γ false (stAt B cl nt i V' (hf s)) (id0 + 16 * i) g o (fun v' es' => v' = v ∧ es' = es) ∧
      (es ≠ [] → hf s = hf i ∧ ∀ e ∈ E, (e < s ↔ e < i)) := by
  have hi : i < all.length := (List.getElem?_eq_some_iff.1 ho).1
  obtain ⟨g, v, es, Vi, q⟩ := hp.ops i o hi ho
  have hbl := bef_listed st inv.closed i o ho he
  -- an effect that is done does not ask for i
  have hnot : ∀ e ∈ E, e < s → i ∉ B.getD e [] := fun e hE hlt hm => by
    have h1 := (inv.stage e hE).2 hlt
    have helt := hp.elt e hE
    have hoe : all[e]? = some all[e] := List.getElem?_eq_getElem helt
    have := bef_listed st inv.closed e _ hoe (inv.closed e _ hoe h1) i hm
    rw [hl] at this
    cases this
  have hnot2 : ∀ e ∈ E, s ≤ e → e ∉ B.getD i [] := fun e hE hle hm => by
    have h1 := (inv.stage e hE).1 (hbl e hm)
    omega
  by_cases hes : es = []
  · subst hes
    obtain ⟨t, ht1, ht2, ht3⟩ := stage_pick (E := E) s
    have hst : hf s = hf t := hf_eq' hp inv.sle (by have := inv.sle; omega) (fun e hE => (ht3 e hE).symm)
    cases hsi : stageIs i t E with
    | true =>
      have hiff := stageIs_iff hsi
      have hti : hf t = hf i := hf_eq' hp (by have := inv.sle; omega) (by omega) hiff
      have : hf s = hf i := hst.trans hti
      exact ⟨g, v, [], Vi, Vi, q, q.sub, by rw [this]; exact q.dst, by rw [this]; exact q.step, fun h => absurd rfl h⟩
    | false =>
      have hsl : (t, hf t) ∈ SL := by
        rcases ht2 with h | ⟨e, hE, h⟩
        · subst h; have := hp.sl0; rw [← hp.h0] at this; exact this
        · subst h; exact hp.slE e hE
      have hok := stageOk_of (B := B) (i := i) (t := t) (E := E) (fun e hE hlt => hnot e hE ((ht3 e hE).1 hlt)) (fun e hE hle => hnot2 e hE (by have := ht3 e hE; omega))
      have hsnd' : drSnd T Γ all B cl nt id0 V E SL all 0 acc := by
        cases hE : E with
        | nil => rw [hE] at hsi; cases hsi
        | cons x r => rw [hE] at hsnd; exact hsnd
      have hds := drSnd_get hsnd' i o v ho q.at_
      rw [Nat.zero_add] at hds
      obtain ⟨g', hg', k1, k2⟩ := drStages_get hds t (hf t) hsl hok hsi
      have : g' = g := by have := q.gd; rw [hg'] at this; injection this
      subst this
      exact ⟨g', v, [], Vi, V, q, fun x hx => hx, by rw [hst]; exact k1, by rw [hst]; exact k2, fun h => absurd rfl h⟩
  · have hiE : i ∈ E := q.eff.1 hes
    have hiff : ∀ e ∈ E, (e < s ↔ e < i) := fun e hE => by
      constructor
      · intro hlt
        by_cases hei : e < i
        · exact hei
        · exfalso
          by_cases hee : e = i
          · subst hee
            have := (inv.stage e hE).2 hlt
            rw [hl] at this; cases this
          · -- e is later than i, so it asks for i
            have helt := hp.elt e hE
            have hoe : all[e]? = some all[e] := List.getElem?_eq_getElem helt
            obtain ⟨g', v', es', Vi', q'⟩ := hp.ops e _ helt hoe
            have := q'.chain (q'.eff.2 hE) i hiE (by omega)
            exact hnot e hE hlt this
      · intro hlt
        have := q.chain hes e hE hlt
        exact (inv.stage e hE).1 (hbl e this)
    have hsi : hf s = hf i := hf_eq' hp inv.sle (by omega) hiff
    exact ⟨g, v, es, Vi, Vi, q, q.sub, by rw [hsi]; exact q.dst, by rw [hsi]; exact q.step, fun _ => ⟨hsi, hiff⟩⟩

theorem stored_rep {a : Act} {w : World} {β : Nat → Option Nat} {ω : Nat → Option (List Nat)} {g : Gd} {v : TV} {d : Nat} {tm : List (Nat × TV)} {u : Value} (hg : gdOk g d = true) (h : (lkT (tmPut g d v tm) d).Rep w β ω a u) : (stored g v).Rep w β ω a u := by
  cases g with
  | none =>
    simp only [tmPut] at h
    rw [lkT_same] at h
    cases v with
    | wh s p x => trivial
    | _ => exact h
  | some sp =>
    obtain ⟨s, p⟩ := sp
    cases v with
    | e x =>
      have hb : Nat.beq s d = false := by
        simp only [gdOk] at hg
        simpa using hg
      simp only [tmPut, hb] at h
      rw [lkT_same] at h
      exact h
    | _ => trivial

theorem inv_next {ops : Array Oper} (st : Stat ops all B) (hcl : ClOk all cl id0) (hp : Part T Γ all B cl nt id0 H0 all.length V H SL E acc hf) {listed : Array Bool} {s : Nat} {a : Act} {w : World} {β : Nat → Option Nat} {ω : Nat → Option (List Nat)}
    (inv : Inv all B cl nt V E hf listed s a w β ω) {i : Nat} {o : Oper} (ho : all[i]? = some o) (hl : listed.getD i false = false) (he : ∀ e ∈ o.after.toList, Region.binds .any e = true → listed.getD e.on false = true)
    {g : Gd} {v : TV} {es : Eds} {Vi V' : VL} (q : OpF T Γ all B cl nt id0 V E acc hf i o g v es Vi) (hd : dstOk (stAt B cl nt i V' (hf s)) g o.dst = true) (heff : es ≠ [] → hf s = hf i ∧ ∀ e ∈ E, (e < s ↔ e < i))
    {a' : Act} {w' : World} {β' : Nat → Option Nat} {ω' : Nat → Option (List Nat)} (hs : Sat ((stAt B cl nt i V' (hf s)).app (id0 + 16 * i) g o.dst v es) a' w' β' ω') (hext : Ext w ω w' ω') (hβ : ∀ l, l < id0 + 16 * i ∨ id0 + 16 * i + 16 ≤ l → β' l = β l)
    {u : Value} (ha : a' = a.put o.dst u) : ∃ s', Inv all B cl nt V E hf (listed.setIfInBounds i true) s' a' w' β' ω' := by
  have hi : i < all.length := (List.getElem?_eq_some_iff.1 ho).1
  have hbl := bef_listed st inv.closed i o ho he
  have hmv : Mv w ω w' ω' := ⟨fun b hb e => by
    obtain ⟨h1, h2⟩ := hext.keep b hb (.inl e)
    exact ⟨h1, by rw [h2, e]⟩, hext.len⟩
  have hslot : ∀ j, o.dst ≠ some j → a'.tmps.getD j undef = a.tmps.getD j undef := fun j hj => by
    rw [ha]
    cases hdd : o.dst with
    | none => rfl
    | some d =>
      have : d < a.tmps.size := by
        rw [hdd] at hd
        have := (dstOk_some hd).1
        rw [inv.nt]; exact this
      simp only [Act.put]
      rw [getD_set _ _ _ _ this, if_neg (fun e => hj (by rw [hdd, e]))]
  have hli : ∀ k, (listed.setIfInBounds i true).getD k false = true ↔ (listed.getD k false = true ∨ k = i) := fun k => by
    by_cases e : k = i
    · subst e
      have : k < listed.size := by rw [inv.sz]; exact hi
      simp [Array.getD_eq_getD_getElem?, this]
    · rw [getD_set_ne false (fun e' => e e'.symm)]
      simp [e]
  have hsat : Sat ((stAt B cl nt i V' (hf s)).app (id0 + 16 * i) g o.dst v es) a' w' β' ω' := hs
  refine ⟨if es = [] then s else i + 1, by simp [inv.sz], fun k o' ho' hk e hm hb => ?_, fun e hE => ?_, ?_, hs.nt, hs.df, fun j => ?_, fun k d x hm hk => ?_, fun l t b hlk ht => ?_, fun b l p e => ?_, hs.lt⟩
  · rw [hli] at hk ⊢
    rcases hk with hk | hk
    · exact .inl (inv.closed k o' ho' hk e hm hb)
    · subst hk
      rw [ho] at ho'
      injection ho' with ho'
      subst ho'
      exact .inl (he e hm hb)
  · rw [hli]
    by_cases hes : es = []
    · rw [if_pos hes, ← inv.stage e hE]
      have : e ≠ i := fun e' => by subst e'; exact (q.eff.2 hE) hes
      simp [this]
    · rw [if_neg hes]
      have h1 := (heff hes).2 e hE
      have h2 := inv.stage e hE
      rw [h2, h1]
      omega
  · split
    · exact inv.sle
    · omega
  · cases hdj : hasN (dstsOf all) j with
    | true => rw [hcl.dst j hdj]; trivial
    | false =>
      have hne : o.dst ≠ some j := fun e => by
        have : hasN (dstsOf all) j = true := (hasN_iff _ _).2 (mem_dstsOf.2 ⟨i, o, ho, e⟩)
        rw [this] at hdj; cases hdj
      rw [hslot j hne]
      refine TV.Rep.anyAct (a := a) (hcl.wh j) (TV.Rep.move hmv (TV.Rep.agree (fun l hl' => hβ l ?_) (inv.tmC j))) a'
      by_cases hlt : id0 ≤ l
      · rw [hcl.ids j l hlt] at hl'; cases hl'
      · left; omega
  · rw [hli] at hk
    obtain ⟨hkn, o', g', v', es', p1, p2, p3, p4, p5⟩ := hp.vok k d x hm
    rcases hk with hk | hk
    · -- of an operation that was done ahead
      have hki : k ≠ i := fun e => by subst e; rw [hl] at hk; cases hk
      have hne : o.dst ≠ some d := fun e => hki (st.inj k i o' o d p1 ho p2 e)
      rw [hslot d hne]
      have hkb : i ∉ B.getD k [] := fun hm' => by
        have := bef_listed st inv.closed k o' p1 (inv.closed k o' p1 hk) i hm'
        rw [hl] at this; cases this
      obtain ⟨g2, v2, es2, Vi2, q2⟩ := hp.ops k o' hkn p1
      have hids : x.all (idf id0 (k :: B.getD k [])) = true := by
        have h1 := q2.gd
        rw [p3] at h1
        injection h1 with h1
        have h2 := q2.at_
        rw [p4] at h2
        injection h2 with h2
        injection h2 with h2 h3
        rw [p5, h1, h2]
        exact q2.ids
      have hrep : x.Rep w' β' ω' a (a.tmps.getD d undef) := by
        refine TV.Rep.move hmv (TV.Rep.agree (fun l hl' => hβ l ?_) (inv.tmD k d x hm hk))
        cases hq : idf id0 (k :: B.getD k []) l with
        | false => rw [TV.all_no hq hids] at hl'; cases hl'
        | true =>
          unfold idf at hq
          split at hq
          · rename_i hlt
            have : l < id0 := by simpa using hlt
            left; omega
          · rename_i hlt
            have hge : id0 ≤ l := by
              by_cases h : l < id0
              · have : Nat.blt l id0 = true := by simpa using h
                rw [this] at hlt; cases hlt
              · omega
            have hmem := (hasN_iff _ _).1 hq
            have hne : (l - id0) / 16 ≠ i := fun e => by
              rw [e] at hmem
              cases hmem with
              | head => exact hki rfl
              | tail _ h => exact hkb h
            omega
      cases x with
      | wh s' p' y =>
        -- the slot that it hangs on is not written now
        have hs' : o.dst ≠ some s' := fun e => by
          have hst : stored g' v' = .wh s' p' y := p5.symm
          have hg' : ∃ pp, g' = some (s', pp) := by
            cases g' with
            | none => cases v' <;> simp [stored] at hst
            | some sp =>
              obtain ⟨s2, p2'⟩ := sp
              cases v' <;> simp [stored] at hst
              exact ⟨p2', by rw [hst.1]⟩
          obtain ⟨pp, hg'⟩ := hg'
          rw [hg'] at p3
          unfold gdOf at p3
          split at p3
          · cases p3
          · rename_i j0 p0 hgd
            split at p3
            · rename_i oj hoj
              split at p3
              · rename_i s3 hs3
                injection p3 with p3
                injection p3 with p3
                injection p3 with p3 _
                subst p3
                have hj0 := st.gd k o' p1
                rw [hgd] at hj0
                have hj0' : j0 ∈ B.getD k [] := (hasN_iff _ _).1 hj0
                have : j0 = i := st.inj j0 i oj o s3 hoj ho hs3 e
                subst this
                exact hkb hj0'
              · cases p3
            · cases p3
        have e1 := hslot s' hs'
        exact ⟨fun hb => hrep.1 (by rw [← e1]; exact hb), fun hb => hrep.2 (by rw [← e1]; exact hb)⟩
      | e y => exact hrep
      | tup l => exact hrep
    · -- of this one
      subst hk
      rw [ho] at p1
      injection p1 with p1
      subst p1
      have h1 := q.gd
      rw [p3] at h1
      injection h1 with h1
      have h2 := q.at_
      rw [p4] at h2
      injection h2 with h2
      injection h2 with h2 h3
      subst h1 h2
      rw [p5]
      have := hsat.tm d
      simp only [AS.app, p2] at this
      rw [p2] at hd
      refine stored_rep ?_ this
      simp only [dstOk, Bool.and_eq_true] at hd
      exact hd.2
  · have hlk' : lkH (edH (id0 + 16 * i) g (hf s) es) l = some (t, b) := by
      by_cases hes : es = []
      · rw [if_pos hes] at hlk; rw [hes]; exact hlk
      · rw [if_neg hes, q.next] at hlk
        rw [(heff hes).1]
        exact hlk
    exact hsat.hp l t b hlk' ht
  · obtain ⟨x, hx⟩ := hsat.cl b l p e
    have hx : lkH (edH (id0 + 16 * i) g (hf s) es) l = some x := hx
    by_cases hes : es = []
    · rw [if_pos hes]; rw [hes] at hx; exact ⟨x, hx⟩
    · rw [if_neg hes, q.next]
      rw [(heff hes).1] at hx
      exact ⟨x, hx⟩
end
end Go.Ice
end

section
set_option linter.unusedVariables false
set_option linter.unusedSimpArgs false
namespace Go.Ice
section
variable {P : Program} {T : Nat → TI} {Γ : Nat → FSpec} {all : List Oper} {B : List (List Nat)} {cl : List (Nat × TV)} {nt id0 : Nat}
variable {H0 : List (Nat × HE)} {V : VL} {H : List (Nat × HE)} {SL : SLs} {E : List Nat} {acc : Acs} {hf : Nat → List (Nat × HE)}

theorem Inv.sat {listed : Array Bool} {s i : Nat} {a : Act} {w : World} {β : Nat → Option Nat} {ω : Nat → Option (List Nat)} (inv : Inv all B cl nt V E hf listed s a w β ω) {V' : VL} (hsub : ∀ x ∈ V', x ∈ V)
    (hb : ∀ y ∈ B.getD i [], listed.getD y false = true) : Sat (stAt B cl nt i V' (hf s)) a w β ω :=
  ⟨inv.nt, inv.df, fun j => filtV_rep inv.tmC (fun k d x hm hk => inv.tmD k d x (hsub _ hm) (hb k hk)) j [], inv.hp, inv.cl, inv.lt⟩

theorem wpAny_mono' {P : Program} {ops : Array Oper} {Q Q' : Exit → Act → World → Prop} (hq : ∀ e a w, Q e a w → Q' e a w) : ∀ (fuel : Nat) (listed : Array Bool) (a : Act) (w : World), wpAny P .any ops Q fuel listed a w → wpAny P .any ops Q' fuel listed a w
  | 0, listed, a, w, h => ⟨h.1, hq _ _ _ h.2⟩
  | fuel + 1, listed, a, w, h => ⟨fun hr => hq _ _ _ (h.1 hr), fun i hi => by
    have := h.2 i hi
    unfold wpOp at this ⊢
    split
    · rename_i e
      rw [e] at this
      exact wpAny_mono' hq fuel _ _ _ this
    · rename_i o e
      rw [e] at this
      simp only at this
      split
      · rename_i hw
        rw [if_pos hw] at this
        rcases this with this | ⟨h1, a2, w2, h2⟩
        · exact .inl (Oper.wp_mono2 (fun a w hk => wpAny_mono' hq fuel _ _ _ hk) hq this)
        · exact .inr ⟨h1, a2, w2, hq _ _ _ h2⟩
      · rename_i hw
        rw [if_neg hw] at this
        exact wpAny_mono' hq fuel _ _ _ this⟩

theorem any_sound (hT : TOk P T) (hΓ : ΓOk P Γ) {ops : Array Oper} {Q : Exit → AS → Prop} (st : Stat ops all B) (hcl : ClOk all cl id0) (hid : 100 ≤ id0) (hp : Part T Γ all B cl nt id0 H0 all.length V H SL E acc hf) (hsnd : nil?' E (drSnd T Γ all B cl nt id0 V E SL all 0 acc))
    {n : Nat} (hK : Q .normal { tm := allV V cl, hp := H, nx := n, nt := nt }) (hn : 100 ≤ n) : ∀ (fuel : Nat) (listed : Array Bool) (s : Nat) (a : Act) (w : World) (β : Nat → Option Nat) (ω : Nat → Option (List Nat)), cntU listed all.length ≤ fuel → Inv all B cl nt V E hf listed s a w β ω →
      wpAny P .any ops (Post Q nt w β ω) fuel listed a w := by
  have hsz : ops.size = all.length := by rw [st.eqs]; simp
  have hget : ∀ i : Nat, ops[i]? = all[i]? := fun i => by rw [st.eqs, Array.getElem?_toList]
  have fin : ∀ (listed : Array Bool) (s : Nat) (a : Act) (w : World) (β : Nat → Option Nat) (ω : Nat → Option (List Nat)), (∀ i, i < all.length → listed.getD i false = true) → Inv all B cl nt V E hf listed s a w β ω → Post Q nt w β ω .normal a w := by
    intro listed s a w β ω hall inv
    have hs : hf s = H := by
      rw [← hp.hi]
      refine hf_eq' hp inv.sle (Nat.le_refl _) (fun e hE => ?_)
      have h1 := hp.elt e hE
      have h2 := (inv.stage e hE).1 (hall e h1)
      exact ⟨fun _ => h1, fun _ => h2⟩
    refine ⟨_, β, ω, hK, ⟨hn, rfl⟩, ⟨inv.nt, inv.df, fun j => ?_, ?_, ?_, inv.lt⟩, Ext.refl, fun _ _ => rfl⟩
    · exact allV_rep inv.tmC (fun k d x hm => inv.tmD k d x hm (hall k (hp.vok k d x hm).1)) j []
    · rw [← hs]; exact inv.hp
    · rw [← hs]; exact inv.cl
  have ready : ∀ (listed : Array Bool), listed.size = all.length → Region.ready .any ops listed = [] → ∀ i, i < all.length → listed.getD i false = true := by
    intro listed hls hr i
    induction i using Nat.strongRecOn with
    | _ i ih =>
      intro hi
      cases hl : listed.getD i false with
      | true => rfl
      | false =>
        exfalso
        have ho : all[i]? = some all[i] := List.getElem?_eq_getElem hi
        have hmem : i ∈ Region.ready .any ops listed := by
          rw [mem_ready]
          refine ⟨?_, all[i], by rw [hget]; exact ho, fun e he hb => ?_⟩
          · rw [Array.getD_eq_getD_getElem?] at hl ⊢
            have : i < listed.size := by rw [hls]; exact hi
            rw [Array.getElem?_eq_getElem this] at hl ⊢
            exact hl
          · have hlt := st.lt i _ ho e (by simpa using he) hb
            exact ih e.on hlt (by omega)
        rw [hr] at hmem
        cases hmem
  intro fuel
  induction fuel with
  | zero =>
    intro listed s a w β ω hc inv
    have hall := cntU_zero (Nat.le_zero.1 hc)
    refine ⟨?_, fin listed s a w β ω hall inv⟩
    cases hr : Region.ready .any ops listed with
    | nil => rfl
    | cons i r =>
      exfalso
      have : i ∈ Region.ready .any ops listed := by rw [hr]; exact .head _
      rw [mem_ready] at this
      obtain ⟨h1, o, ho, _⟩ := this
      rw [hget] at ho
      have hi := (List.getElem?_eq_some_iff.1 ho).1
      have h2 := hall i hi
      rw [Array.getD_eq_getD_getElem?] at h1 h2
      have : i < listed.size := by rw [inv.sz]; exact hi
      rw [Array.getElem?_eq_getElem this] at h1 h2
      simp only [Option.getD_some] at h1 h2
      rw [h1] at h2
      cases h2
  | succ fuel ih =>
    intro listed s a w β ω hc inv
    refine ⟨fun hr => fin listed s a w β ω (ready listed inv.sz hr) inv, fun i hi => ?_⟩
    rw [mem_ready] at hi
    obtain ⟨h1, o, ho, he⟩ := hi
    have ho' : all[i]? = some o := by rw [← hget]; exact ho
    have hilt := (List.getElem?_eq_some_iff.1 ho').1
    have hisz : i < listed.size := by rw [inv.sz]; exact hilt
    have hl : listed.getD i false = false := by
      rw [Array.getD_eq_getD_getElem?, Array.getElem?_eq_getElem hisz] at h1 ⊢
      exact h1
    have he' : ∀ e ∈ o.after.toList, Region.binds .any e = true → listed.getD e.on false = true := fun e hm hb => he e (by simpa using hm) hb
    obtain ⟨g, v, es, Vi, V', q, hsub, hd, hst, heff⟩ := inv_op st hp hsnd inv ho' hl he'
    have hsat := inv.sat (i := i) hsub (bef_listed st inv.closed i o ho' he')
    have hgd : gdOf ops.toList o.guard = some g := by rw [← st.eqs]; exact q.gd
    obtain ⟨hw1, hw2⟩ := gdOf_wanted (a := a) hgd
    have next : ∀ (a' : Act) (w' : World) (β' : Nat → Option Nat) (ω' : Nat → Option (List Nat)) (u : Value), Sat ((stAt B cl nt i V' (hf s)).app (id0 + 16 * i) g o.dst v es) a' w' β' ω' → Ext w ω w' ω' → (∀ l, l < id0 + 16 * i ∨ id0 + 16 * i + 16 ≤ l → β' l = β l) → a' = a.put o.dst u →
        wpAny P .any ops (Post Q nt w β ω) fuel (listed.setIfInBounds i true) a' w' := by
      intro a' w' β' ω' u hs' hext hβ ha
      obtain ⟨s', inv'⟩ := inv_next st hcl hp inv ho' hl he' q hd heff hs' hext hβ ha
      have hcnt := cntU_lt hisz hl all.length hilt
      refine wpAny_mono' ?_ _ _ _ _ (ih (listed.setIfInBounds i true) s' a' w' β' ω' (by omega) inv')
      intro e a2 w2 hpost
      exact hpost.trans hext (fun l hl => hβ l (.inl (by omega)))
    simp only [wpOp, ho]
    cases hw : Region.wanted o (yielded ops a.tmps) with
    | true =>
      simp only [if_true]
      refine .inl ?_
      have := step_sound hT hΓ hd hst a w β ω hsat (hw1 hw)
      have := Oper.wp_put (fun a w hk => by obtain ⟨_, _, _, _, _, hs, _⟩ := hk; exact hs.df) this
      refine Oper.wp_post (fun a' w' hk => ?_) this
      obtain ⟨⟨v', es', β', ω', ⟨e1, e2⟩, hs', hext, hβ⟩, u, ha⟩ := hk
      subst e1 e2
      exact next a' w' β' ω' u hs' hext hβ ha
    | false =>
      obtain ⟨s1, p1, hgg, hne⟩ := hw2 hw
      subst hgg
      simp only [Bool.false_eq_true, if_false]
      exact next _ w β ω undef (hsat.skip hne hd (by have := q.eds; exact this)) Ext.refl (fun _ _ => rfl) rfl
end

theorem clean_ok {σ : AS} {all : List Oper} (hbd : σ.bd σ.nx = true) : ClOk all (cleanT (dstsOf all) [] σ.tm) σ.nx := by
  refine ⟨fun j hj => ?_, fun j => ?_, fun j l hl => ?_⟩
  · rcases cleanT_lk (dstsOf all) j σ.tm [] [] [] with h | ⟨_, h, _⟩
    · exact h
    · rw [hj] at h; cases h
  · rcases cleanT_lk (dstsOf all) j σ.tm [] [] [] with h | ⟨_, _, h3, h4⟩
    · unfold lkT; rw [h]; trivial
    · unfold lkT
      rw [h3]
      generalize lkGo σ.tm j [] = x at h4
      cases x with
      | wh a b c => exact absurd rfl (h4 a b c)
      | _ => trivial
  · rcases cleanT_lk (dstsOf all) j σ.tm [] [] [] with h | ⟨_, _, h3, _⟩
    · unfold lkT; rw [h]; rfl
    · unfold lkT
      rw [h3]
      exact fresh_tm (AS.bd_fresh hbd hl) j

theorem lkH_append {α : Type} (x y : List (Nat × α)) (l : Nat) : lkH (x ++ y) l = match lkH x l with
    | some e => some e
    | none => lkH y l := by
  induction x with
  | nil => rfl
  | cons z r ih =>
    obtain ⟨k, v⟩ := z
    simp only [List.cons_append, lkH]
    cases Nat.beq k l with
    | true => rfl
    | false => exact ih
theorem lkH_preOf {T : Nat → TI} : ∀ {ops : List Oper} {i id0 l : Nat} {g : Gd} {b : Blk}, lkH (preOf T ops i id0) l = some (g, b) → g = none ∧ id0 ≤ l ∧ ∃ cs, b = .pre cs
  | [], _, _, _, _, _, h => by cases h
  | o :: r, i, id0, l, g, b, h => by
    unfold preOf at h
    split at h
    · split at h
      · simp only [lkH] at h
        cases hb : Nat.beq (id0 + 16 * i) l with
        | true =>
          rw [hb] at h
          injection h with h
          injection h with h1 h2
          have := Nat.eq_of_beq_eq_true hb
          exact ⟨h1.symm, by omega, _, h2.symm⟩
        | false => rw [hb] at h; exact lkH_preOf h
      · exact lkH_preOf h
    · exact lkH_preOf h
def preβ (n : Nat) (β : Nat → Option Nat) (l : Nat) : Option Nat := if n ≤ l then none else β l
theorem Sat.pre {T : Nat → TI} {σ : AS} {a : Act} {w : World} {β : Nat → Option Nat} {ω : Nat → Option (List Nat)} (hs : Sat σ a w β ω) (hbd : σ.bd σ.nx = true) (ops : List Oper) :
    Sat { σ with hp := σ.hp ++ preOf T ops 0 σ.nx } a w (preβ σ.nx β) ω := by
  have hno : ∀ l, σ.nx ≤ l → σ.fresh l = true := fun l hl => AS.bd_fresh hbd hl
  have ag : ∀ l, σ.fresh l = false → preβ σ.nx β l = β l := fun l hl => by
    unfold preβ
    split
    · rename_i h; rw [hno l h] at hl; cases hl
    · rfl
  have fr : ∀ l, l < σ.nx → preβ σ.nx β l = β l := fun l hl => by
    unfold preβ
    rw [if_neg (by omega)]
  refine ⟨hs.nt, hs.df, fun j => TV.Rep.agree (fun l hl => fr l ?_) (hs.tm j), fun l g b hl hg => ?_, fun b l p e => ?_, hs.lt⟩
  · by_cases h : σ.nx ≤ l
    · rw [Go.Ice.fresh_tm (hno l h) j] at hl; cases hl
    · omega
  · have hl : lkH (σ.hp ++ preOf T ops 0 σ.nx) l = some (g, b) := hl
    rw [lkH_append] at hl
    cases hh : lkH σ.hp l with
    | some e =>
      rw [hh] at hl
      simp only [Option.some.injEq] at hl
      subst hl
      refine Blk.Rep.agree (fun k hk => fr k ?_) (fr l (bd_lt hbd hh)) (hs.hp l g b hh hg)
      by_cases h : σ.nx ≤ k
      · have := (lkH_no (Sat.fresh_hp (hno k h)) hh).2
        rw [this] at hk; cases hk
      · omega
    | none =>
      rw [hh] at hl
      obtain ⟨_, h1, cs, rfl⟩ := lkH_preOf hl
      exact .inl (by unfold preβ; rw [if_pos h1])
  · obtain ⟨x, hx⟩ := hs.cl b l p e
    exact ⟨x, by show lkH (σ.hp ++ _) l = _; rw [lkH_append, hx]⟩
theorem wpDr_ok {P : Program} {T : Nat → TI} {Γ : Nat → FSpec} (hT : TOk P T) (hΓ : ΓOk P Γ) (hm : P.follows .mixedOrders = true) : DROk P (wpDr T Γ) := by
  intro rid ops Q σ h hn a w β ω hs
  refine wp_region_any hm ?_
  have hgrew : Grew w { w with drawn := w.drawn + 1 } := ⟨rfl, rfl, rfl, Nat.le_refl _, fun b hb => rfl⟩
  have hs' := hs.grow hgrew
  unfold wpDr at h
  simp only at h
  split at h
  · rename_i hst
    simp only [Bool.and_eq_true] at hst
    obtain ⟨⟨h1, h2⟩, h3⟩ := hst
    have hs' := hs'.pre (T := T) h3 ops.toList
    have st : Stat ops ops.toList (befGo ops.toList []) := by
      refine ⟨rfl, fun i o ho y hy => ?_, fun i o ho e he hb => ?_, fun i o ho => ?_, dsts_inj h2⟩
      · have := befGo_spec ops.toList [] i o ho y (by simpa using hy)
        exact this
      · have := (statGo_get h1 i o ho).1
        rw [Nat.zero_add] at this
        exact edgesLt_mem this e he hb
      · have := (statGo_get h1 i o ho).2
        rw [Nat.zero_add] at this
        exact this
    have hp0 : Part T Γ ops.toList (befGo ops.toList []) (cleanT (dstsOf ops.toList) [] σ.tm) σ.nt σ.nx (σ.hp ++ preOf T ops.toList 0 σ.nx) 0 [] (σ.hp ++ preOf T ops.toList 0 σ.nx) [(0, σ.hp ++ preOf T ops.toList 0 σ.nx)] [] [] (fun _ => σ.hp ++ preOf T ops.toList 0 σ.nx) := by
      refine ⟨rfl, rfl, rfl, (fun j o hj => absurd hj (by omega)), (fun e he => by cases he), (fun k d x hx => by cases hx), fun t Ht ht => ?_, .head _, (fun e he => by cases he)⟩
      cases ht with
      | head => exact ⟨Nat.le_refl _, rfl⟩
      | tail _ h => cases h
    obtain ⟨V, H, SL, E, acc, hf, hp, hsnd, hK⟩ := drGo_facts ops.toList 0 (by simp) (by simp) hp0 h
    have hcl := clean_ok (all := ops.toList) h3
    have hempty : ∀ k, (Array.replicate ops.size false).getD k false = false := fun k => by
      rw [Array.getD_eq_getD_getElem?, Array.getElem?_replicate]
      split <;> rfl
    have hcnt : ∀ n, cntU (Array.replicate ops.size false) n ≤ n := fun n => by
      induction n with
      | zero => exact Nat.le_refl _
      | succ k ih => simp only [cntU]; split <;> omega
    have inv : Inv ops.toList (befGo ops.toList []) (cleanT (dstsOf ops.toList) [] σ.tm) σ.nt V E hf (Array.replicate ops.size false) 0 a { w with drawn := w.drawn + 1 } (preβ σ.nx β) ω := by
      refine ⟨by simp, (fun i o ho hl => by rw [hempty] at hl; cases hl), (fun e he => by rw [hempty]; simp), Nat.zero_le _, hs'.nt, hs'.df, fun j => ?_, (fun k d x hm hl => by rw [hempty] at hl; cases hl), ?_, ?_, hs'.lt⟩
      · rcases cleanT_lk (dstsOf ops.toList) j σ.tm [] [] [] with h | ⟨_, _, h, _⟩
        · unfold lkT; rw [h]; trivial
        · have := hs'.tm j
          unfold lkT at this ⊢
          rw [h]; exact this
      · rw [hp.h0]; exact hs'.hp
      · rw [hp.h0]; exact hs'.cl
    have := any_sound hT hΓ st hcl hn hp hsnd hK (by omega) ops.size (Array.replicate ops.size false) 0 a _ (preβ σ.nx β) ω (by have := hcnt ops.toList.length; simpa using this) inv
    exact wpAny_mono' (fun e a2 w2 hpost => hpost.trans hgrew.ext (fun l hl => by unfold preβ; rw [if_neg (by omega)])) _ _ _ _ this
  · exact h.elim
end Go.Ice
end

section
set_option linter.unusedVariables false
set_option linter.unusedSimpArgs false
namespace Go.Ice
/-! ### Tables of contracts, and small things for proofs over programs -/
def FSpec.nothing : FSpec := ⟨Empty, nofun, nofun, nofun, nofun, nofun, false, nofun⟩
def lkG : List (Nat × FSpec) → Nat → FSpec
  | [], _ => FSpec.nothing
  | (k, S) :: r, j => match Nat.beq k j with
    | true => S
    | false => lkG r j
theorem ΓOk.nil {P : Program} : ΓOk P (lkG []) := fun f d => nomatch (show Empty from d)
theorem ΓOk.cons {P : Program} {L : List (Nat × FSpec)} {f : Nat} {S : FSpec} (h : ΓOk P (lkG L)) (h1 : FnOk P f) (h2 : S.Ok P f) : ΓOk P (lkG ((f, S) :: L)) := by
  intro k
  simp only [lkG]
  cases hb : Nat.beq f k with
  | true =>
    intro _
    have := Nat.eq_of_beq_eq_true hb
    subst this
    exact ⟨h1, h2⟩
  | false => exact h k
theorem FC.Eqv.refl : ∀ x : FC, x.Eqv x := by
  intro x
  induction x with
  | any => trivial
  | int k n => exact ⟨rfl, rfl⟩
  | bool b => exact rfl
  | str s => exact rfl
  | sl sz bw n g ih => exact ⟨rfl, rfl, rfl, fun i _ j _ => ih i j⟩
theorem NC.Eqv.refl : ∀ x : NC, x.Eqv x := by
  intro x
  induction x with
  | f x => exact FC.Eqv.refl x
  | uq sz bw n g ih => exact ⟨rfl, rfl, rfl, fun i _ j _ => ih i j⟩
theorem FC.Eqv.of_eq {x y : FC} (h : x = y) : x.Eqv y := h ▸ FC.Eqv.refl x
theorem NC.Eqv.of_eq {x y : NC} (h : x = y) : x.Eqv y := h ▸ NC.Eqv.refl x
theorem FSpec.ok {P : Program} {T : Nat → TI} {L : List (Nat × FSpec)} (hT : TOk P T) (hm : P.follows .mixedOrders = true) (hΓ : ΓOk P (lkG L)) {f : Nat} {fn : Func} {c : Code} {S : FSpec} (hf : P.funcs[f]? = some fn) (hb : fn.body = some c)
    (hle : ∀ d, Nat.ble (S.args d).length fn.ntmps = true)
    (h : ∀ d, S.pre d → evsFacts (S.args d) → (∀ i B, lkH (S.hin d) i = some B → B.facts) → wpC T (lkG L) (wpDr T (lkG L)) c (retQ T fn.results.toList S d) (startS S d fn.ntmps)) : S.Ok P f :=
  FSpec.of_body hT hΓ (wpDr_ok hT hΓ hm) hf hb hle h
end Go.Ice
end

section
set_option linter.unusedVariables false
set_option linter.unusedSimpArgs false
namespace Go.Ice

/-! ### States written out: nothing of how they came about stays in them -/
set_option maxRecDepth 100000 in
def litTab : List (Nat × List Nat) := [(63, [0, 1, 2, 3, 4, 5, 6, 7, 8, 9, 10, 11, 12, 13, 14, 15, 16, 17, 18, 19, 20, 21, 22, 23, 24, 25, 26, 27, 28, 29, 30, 31, 32, 33, 34, 35, 36, 37, 38, 39, 40, 41, 42, 43, 44, 45, 46, 47, 48, 49, 50, 51, 52, 53, 54, 55, 56, 57, 58, 59, 60, 61, 62, 63]),
  (127, [64, 65, 66, 67, 68, 69, 70, 71, 72, 73, 74, 75, 76, 77, 78, 79, 80, 81, 82, 83, 84, 85, 86, 87, 88, 89, 90, 91, 92, 93, 94, 95, 96, 97, 98, 99, 100, 101, 102, 103, 104, 105, 106, 107, 108, 109, 110, 111, 112, 113, 114, 115, 116, 117, 118, 119, 120, 121, 122, 123, 124, 125, 126, 127]),
  (191, [128, 129, 130, 131, 132, 133, 134, 135, 136, 137, 138, 139, 140, 141, 142, 143, 144, 145, 146, 147, 148, 149, 150, 151, 152, 153, 154, 155, 156, 157, 158, 159, 160, 161, 162, 163, 164, 165, 166, 167, 168, 169, 170, 171, 172, 173, 174, 175, 176, 177, 178, 179, 180, 181, 182, 183, 184, 185, 186, 187, 188, 189, 190, 191]),
  (255, [192, 193, 194, 195, 196, 197, 198, 199, 200, 201, 202, 203, 204, 205, 206, 207, 208, 209, 210, 211, 212, 213, 214, 215, 216, 217, 218, 219, 220, 221, 222, 223, 224, 225, 226, 227, 228, 229, 230, 231, 232, 233, 234, 235, 236, 237, 238, 239, 240, 241, 242, 243, 244, 245, 246, 247, 248, 249, 250, 251, 252, 253, 254, 255]),
  (319, [256, 257, 258, 259, 260, 261, 262, 263, 264, 265, 266, 267, 268, 269, 270, 271, 272, 273, 274, 275, 276, 277, 278, 279, 280, 281, 282, 283, 284, 285, 286, 287, 288, 289, 290, 291, 292, 293, 294, 295, 296, 297, 298, 299, 300, 301, 302, 303, 304, 305, 306, 307, 308, 309, 310, 311, 312, 313, 314, 315, 316, 317, 318, 319]),
  (383, [320, 321, 322, 323, 324, 325, 326, 327, 328, 329, 330, 331, 332, 333, 334, 335, 336, 337, 338, 339, 340, 341, 342, 343, 344, 345, 346, 347, 348, 349, 350, 351, 352, 353, 354, 355, 356, 357, 358, 359, 360, 361, 362, 363, 364, 365, 366, 367, 368, 369, 370, 371, 372, 373, 374, 375, 376, 377, 378, 379, 380, 381, 382, 383]),
  (447, [384, 385, 386, 387, 388, 389, 390, 391, 392, 393, 394, 395, 396, 397, 398, 399, 400, 401, 402, 403, 404, 405, 406, 407, 408, 409, 410, 411, 412, 413, 414, 415, 416, 417, 418, 419, 420, 421, 422, 423, 424, 425, 426, 427, 428, 429, 430, 431, 432, 433, 434, 435, 436, 437, 438, 439, 440, 441, 442, 443, 444, 445, 446, 447]),
  (511, [448, 449, 450, 451, 452, 453, 454, 455, 456, 457, 458, 459, 460, 461, 462, 463, 464, 465, 466, 467, 468, 469, 470, 471, 472, 473, 474, 475, 476, 477, 478, 479, 480, 481, 482, 483, 484, 485, 486, 487, 488, 489, 490, 491, 492, 493, 494, 495, 496, 497, 498, 499, 500, 501, 502, 503, 504, 505, 506, 507, 508, 509, 510, 511]),
  (575, [512, 513, 514, 515, 516, 517, 518, 519, 520, 521, 522, 523, 524, 525, 526, 527, 528, 529, 530, 531, 532, 533, 534, 535, 536, 537, 538, 539, 540, 541, 542, 543, 544, 545, 546, 547, 548, 549, 550, 551, 552, 553, 554, 555, 556, 557, 558, 559, 560, 561, 562, 563, 564, 565, 566, 567, 568, 569, 570, 571, 572, 573, 574, 575]),
  (639, [576, 577, 578, 579, 580, 581, 582, 583, 584, 585, 586, 587, 588, 589, 590, 591, 592, 593, 594, 595, 596, 597, 598, 599, 600, 601, 602, 603, 604, 605, 606, 607, 608, 609, 610, 611, 612, 613, 614, 615, 616, 617, 618, 619, 620, 621, 622, 623, 624, 625, 626, 627, 628, 629, 630, 631, 632, 633, 634, 635, 636, 637, 638, 639]),
  (703, [640, 641, 642, 643, 644, 645, 646, 647, 648, 649, 650, 651, 652, 653, 654, 655, 656, 657, 658, 659, 660, 661, 662, 663, 664, 665, 666, 667, 668, 669, 670, 671, 672, 673, 674, 675, 676, 677, 678, 679, 680, 681, 682, 683, 684, 685, 686, 687, 688, 689, 690, 691, 692, 693, 694, 695, 696, 697, 698, 699, 700, 701, 702, 703]),
  (767, [704, 705, 706, 707, 708, 709, 710, 711, 712, 713, 714, 715, 716, 717, 718, 719, 720, 721, 722, 723, 724, 725, 726, 727, 728, 729, 730, 731, 732, 733, 734, 735, 736, 737, 738, 739, 740, 741, 742, 743, 744, 745, 746, 747, 748, 749, 750, 751, 752, 753, 754, 755, 756, 757, 758, 759, 760, 761, 762, 763, 764, 765, 766, 767]),
  (831, [768, 769, 770, 771, 772, 773, 774, 775, 776, 777, 778, 779, 780, 781, 782, 783, 784, 785, 786, 787, 788, 789, 790, 791, 792, 793, 794, 795, 796, 797, 798, 799, 800, 801, 802, 803, 804, 805, 806, 807, 808, 809, 810, 811, 812, 813, 814, 815, 816, 817, 818, 819, 820, 821, 822, 823, 824, 825, 826, 827, 828, 829, 830, 831]),
  (895, [832, 833, 834, 835, 836, 837, 838, 839, 840, 841, 842, 843, 844, 845, 846, 847, 848, 849, 850, 851, 852, 853, 854, 855, 856, 857, 858, 859, 860, 861, 862, 863, 864, 865, 866, 867, 868, 869, 870, 871, 872, 873, 874, 875, 876, 877, 878, 879, 880, 881, 882, 883, 884, 885, 886, 887, 888, 889, 890, 891, 892, 893, 894, 895]),
  (959, [896, 897, 898, 899, 900, 901, 902, 903, 904, 905, 906, 907, 908, 909, 910, 911, 912, 913, 914, 915, 916, 917, 918, 919, 920, 921, 922, 923, 924, 925, 926, 927, 928, 929, 930, 931, 932, 933, 934, 935, 936, 937, 938, 939, 940, 941, 942, 943, 944, 945, 946, 947, 948, 949, 950, 951, 952, 953, 954, 955, 956, 957, 958, 959]),
  (1023, [960, 961, 962, 963, 964, 965, 966, 967, 968, 969, 970, 971, 972, 973, 974, 975, 976, 977, 978, 979, 980, 981, 982, 983, 984, 985, 986, 987, 988, 989, 990, 991, 992, 993, 994, 995, 996, 997, 998, 999, 1000, 1001, 1002, 1003, 1004, 1005, 1006, 1007, 1008, 1009, 1010, 1011, 1012, 1013, 1014, 1015, 1016, 1017, 1018, 1019, 1020, 1021, 1022, 1023]),
  (1087, [1024, 1025, 1026, 1027, 1028, 1029, 1030, 1031, 1032, 1033, 1034, 1035, 1036, 1037, 1038, 1039, 1040, 1041, 1042, 1043, 1044, 1045, 1046, 1047, 1048, 1049, 1050, 1051, 1052, 1053, 1054, 1055, 1056, 1057, 1058, 1059, 1060, 1061, 1062, 1063, 1064, 1065, 1066, 1067, 1068, 1069, 1070, 1071, 1072, 1073, 1074, 1075, 1076, 1077, 1078, 1079, 1080, 1081, 1082, 1083, 1084, 1085, 1086, 1087]),
  (1151, [1088, 1089, 1090, 1091, 1092, 1093, 1094, 1095, 1096, 1097, 1098, 1099, 1100, 1101, 1102, 1103, 1104, 1105, 1106, 1107, 1108, 1109, 1110, 1111, 1112, 1113, 1114, 1115, 1116, 1117, 1118, 1119, 1120, 1121, 1122, 1123, 1124, 1125, 1126, 1127, 1128, 1129, 1130, 1131, 1132, 1133, 1134, 1135, 1136, 1137, 1138, 1139, 1140, 1141, 1142, 1143, 1144, 1145, 1146, 1147, 1148, 1149, 1150, 1151]),
  (1215, [1152, 1153, 1154, 1155, 1156, 1157, 1158, 1159, 1160, 1161, 1162, 1163, 1164, 1165, 1166, 1167, 1168, 1169, 1170, 1171, 1172, 1173, 1174, 1175, 1176, 1177, 1178, 1179, 1180, 1181, 1182, 1183, 1184, 1185, 1186, 1187, 1188, 1189, 1190, 1191, 1192, 1193, 1194, 1195, 1196, 1197, 1198, 1199, 1200, 1201, 1202, 1203, 1204, 1205, 1206, 1207, 1208, 1209, 1210, 1211, 1212, 1213, 1214, 1215]),
  (1279, [1216, 1217, 1218, 1219, 1220, 1221, 1222, 1223, 1224, 1225, 1226, 1227, 1228, 1229, 1230, 1231, 1232, 1233, 1234, 1235, 1236, 1237, 1238, 1239, 1240, 1241, 1242, 1243, 1244, 1245, 1246, 1247, 1248, 1249, 1250, 1251, 1252, 1253, 1254, 1255, 1256, 1257, 1258, 1259, 1260, 1261, 1262, 1263, 1264, 1265, 1266, 1267, 1268, 1269, 1270, 1271, 1272, 1273, 1274, 1275, 1276, 1277, 1278, 1279]),
  (1343, [1280, 1281, 1282, 1283, 1284, 1285, 1286, 1287, 1288, 1289, 1290, 1291, 1292, 1293, 1294, 1295, 1296, 1297, 1298, 1299, 1300, 1301, 1302, 1303, 1304, 1305, 1306, 1307, 1308, 1309, 1310, 1311, 1312, 1313, 1314, 1315, 1316, 1317, 1318, 1319, 1320, 1321, 1322, 1323, 1324, 1325, 1326, 1327, 1328, 1329, 1330, 1331, 1332, 1333, 1334, 1335, 1336, 1337, 1338, 1339, 1340, 1341, 1342, 1343]),
  (1407, [1344, 1345, 1346, 1347, 1348, 1349, 1350, 1351, 1352, 1353, 1354, 1355, 1356, 1357, 1358, 1359, 1360, 1361, 1362, 1363, 1364, 1365, 1366, 1367, 1368, 1369, 1370, 1371, 1372, 1373, 1374, 1375, 1376, 1377, 1378, 1379, 1380, 1381, 1382, 1383, 1384, 1385, 1386, 1387, 1388, 1389, 1390, 1391, 1392, 1393, 1394, 1395, 1396, 1397, 1398, 1399, 1400, 1401, 1402, 1403, 1404, 1405, 1406, 1407]),
  (1471, [1408, 1409, 1410, 1411, 1412, 1413, 1414, 1415, 1416, 1417, 1418, 1419, 1420, 1421, 1422, 1423, 1424, 1425, 1426, 1427, 1428, 1429, 1430, 1431, 1432, 1433, 1434, 1435, 1436, 1437, 1438, 1439, 1440, 1441, 1442, 1443, 1444, 1445, 1446, 1447, 1448, 1449, 1450, 1451, 1452, 1453, 1454, 1455, 1456, 1457, 1458, 1459, 1460, 1461, 1462, 1463, 1464, 1465, 1466, 1467, 1468, 1469, 1470, 1471]),
  (1535, [1472, 1473, 1474, 1475, 1476, 1477, 1478, 1479, 1480, 1481, 1482, 1483, 1484, 1485, 1486, 1487, 1488, 1489, 1490, 1491, 1492, 1493, 1494, 1495, 1496, 1497, 1498, 1499, 1500, 1501, 1502, 1503, 1504, 1505, 1506, 1507, 1508, 1509, 1510, 1511, 1512, 1513, 1514, 1515, 1516, 1517, 1518, 1519, 1520, 1521, 1522, 1523, 1524, 1525, 1526, 1527, 1528, 1529, 1530, 1531, 1532, 1533, 1534, 1535]),
  (1599, [1536, 1537, 1538, 1539, 1540, 1541, 1542, 1543, 1544, 1545, 1546, 1547, 1548, 1549, 1550, 1551, 1552, 1553, 1554, 1555, 1556, 1557, 1558, 1559, 1560, 1561, 1562, 1563, 1564, 1565, 1566, 1567, 1568, 1569, 1570, 1571, 1572, 1573, 1574, 1575, 1576, 1577, 1578, 1579, 1580, 1581, 1582, 1583, 1584, 1585, 1586, 1587, 1588, 1589, 1590, 1591, 1592, 1593, 1594, 1595, 1596, 1597, 1598, 1599]),
  (1663, [1600, 1601, 1602, 1603, 1604, 1605, 1606, 1607, 1608, 1609, 1610, 1611, 1612, 1613, 1614, 1615, 1616, 1617, 1618, 1619, 1620, 1621, 1622, 1623, 1624, 1625, 1626, 1627, 1628, 1629, 1630, 1631, 1632, 1633, 1634, 1635, 1636, 1637, 1638, 1639, 1640, 1641, 1642, 1643, 1644, 1645, 1646, 1647, 1648, 1649, 1650, 1651, 1652, 1653, 1654, 1655, 1656, 1657, 1658, 1659, 1660, 1661, 1662, 1663]),
  (1727, [1664, 1665, 1666, 1667, 1668, 1669, 1670, 1671, 1672, 1673, 1674, 1675, 1676, 1677, 1678, 1679, 1680, 1681, 1682, 1683, 1684, 1685, 1686, 1687, 1688, 1689, 1690, 1691, 1692, 1693, 1694, 1695, 1696, 1697, 1698, 1699, 1700, 1701, 1702, 1703, 1704, 1705, 1706, 1707, 1708, 1709, 1710, 1711, 1712, 1713, 1714, 1715, 1716, 1717, 1718, 1719, 1720, 1721, 1722, 1723, 1724, 1725, 1726, 1727]),
  (1791, [1728, 1729, 1730, 1731, 1732, 1733, 1734, 1735, 1736, 1737, 1738, 1739, 1740, 1741, 1742, 1743, 1744, 1745, 1746, 1747, 1748, 1749, 1750, 1751, 1752, 1753, 1754, 1755, 1756, 1757, 1758, 1759, 1760, 1761, 1762, 1763, 1764, 1765, 1766, 1767, 1768, 1769, 1770, 1771, 1772, 1773, 1774, 1775, 1776, 1777, 1778, 1779, 1780, 1781, 1782, 1783, 1784, 1785, 1786, 1787, 1788, 1789, 1790, 1791]),
  (1855, [1792, 1793, 1794, 1795, 1796, 1797, 1798, 1799, 1800, 1801, 1802, 1803, 1804, 1805, 1806, 1807, 1808, 1809, 1810, 1811, 1812, 1813, 1814, 1815, 1816, 1817, 1818, 1819, 1820, 1821, 1822, 1823, 1824, 1825, 1826, 1827, 1828, 1829, 1830, 1831, 1832, 1833, 1834, 1835, 1836, 1837, 1838, 1839, 1840, 1841, 1842, 1843, 1844, 1845, 1846, 1847, 1848, 1849, 1850, 1851, 1852, 1853, 1854, 1855]),
  (1919, [1856, 1857, 1858, 1859, 1860, 1861, 1862, 1863, 1864, 1865, 1866, 1867, 1868, 1869, 1870, 1871, 1872, 1873, 1874, 1875, 1876, 1877, 1878, 1879, 1880, 1881, 1882, 1883, 1884, 1885, 1886, 1887, 1888, 1889, 1890, 1891, 1892, 1893, 1894, 1895, 1896, 1897, 1898, 1899, 1900, 1901, 1902, 1903, 1904, 1905, 1906, 1907, 1908, 1909, 1910, 1911, 1912, 1913, 1914, 1915, 1916, 1917, 1918, 1919]),
  (1983, [1920, 1921, 1922, 1923, 1924, 1925, 1926, 1927, 1928, 1929, 1930, 1931, 1932, 1933, 1934, 1935, 1936, 1937, 1938, 1939, 1940, 1941, 1942, 1943, 1944, 1945, 1946, 1947, 1948, 1949, 1950, 1951, 1952, 1953, 1954, 1955, 1956, 1957, 1958, 1959, 1960, 1961, 1962, 1963, 1964, 1965, 1966, 1967, 1968, 1969, 1970, 1971, 1972, 1973, 1974, 1975, 1976, 1977, 1978, 1979, 1980, 1981, 1982, 1983]),
  (2047, [1984, 1985, 1986, 1987, 1988, 1989, 1990, 1991, 1992, 1993, 1994, 1995, 1996, 1997, 1998, 1999, 2000, 2001, 2002, 2003, 2004, 2005, 2006, 2007, 2008, 2009, 2010, 2011, 2012, 2013, 2014, 2015, 2016, 2017, 2018, 2019, 2020, 2021, 2022, 2023, 2024, 2025, 2026, 2027, 2028, 2029, 2030, 2031, 2032, 2033, 2034, 2035, 2036, 2037, 2038, 2039, 2040, 2041, 2042, 2043, 2044, 2045, 2046, 2047]),
  (2111, [2048, 2049, 2050, 2051, 2052, 2053, 2054, 2055, 2056, 2057, 2058, 2059, 2060, 2061, 2062, 2063, 2064, 2065, 2066, 2067, 2068, 2069, 2070, 2071, 2072, 2073, 2074, 2075, 2076, 2077, 2078, 2079, 2080, 2081, 2082, 2083, 2084, 2085, 2086, 2087, 2088, 2089, 2090, 2091, 2092, 2093, 2094, 2095, 2096, 2097, 2098, 2099, 2100, 2101, 2102, 2103, 2104, 2105, 2106, 2107, 2108, 2109, 2110, 2111]),
  (2175, [2112, 2113, 2114, 2115, 2116, 2117, 2118, 2119, 2120, 2121, 2122, 2123, 2124, 2125, 2126, 2127, 2128, 2129, 2130, 2131, 2132, 2133, 2134, 2135, 2136, 2137, 2138, 2139, 2140, 2141, 2142, 2143, 2144, 2145, 2146, 2147, 2148, 2149, 2150, 2151, 2152, 2153, 2154, 2155, 2156, 2157, 2158, 2159, 2160, 2161, 2162, 2163, 2164, 2165, 2166, 2167, 2168, 2169, 2170, 2171, 2172, 2173, 2174, 2175]),
  (2239, [2176, 2177, 2178, 2179, 2180, 2181, 2182, 2183, 2184, 2185, 2186, 2187, 2188, 2189, 2190, 2191, 2192, 2193, 2194, 2195, 2196, 2197, 2198, 2199, 2200, 2201, 2202, 2203, 2204, 2205, 2206, 2207, 2208, 2209, 2210, 2211, 2212, 2213, 2214, 2215, 2216, 2217, 2218, 2219, 2220, 2221, 2222, 2223, 2224, 2225, 2226, 2227, 2228, 2229, 2230, 2231, 2232, 2233, 2234, 2235, 2236, 2237, 2238, 2239]),
  (2303, [2240, 2241, 2242, 2243, 2244, 2245, 2246, 2247, 2248, 2249, 2250, 2251, 2252, 2253, 2254, 2255, 2256, 2257, 2258, 2259, 2260, 2261, 2262, 2263, 2264, 2265, 2266, 2267, 2268, 2269, 2270, 2271, 2272, 2273, 2274, 2275, 2276, 2277, 2278, 2279, 2280, 2281, 2282, 2283, 2284, 2285, 2286, 2287, 2288, 2289, 2290, 2291, 2292, 2293, 2294, 2295, 2296, 2297, 2298, 2299, 2300, 2301, 2302, 2303]),
  (2367, [2304, 2305, 2306, 2307, 2308, 2309, 2310, 2311, 2312, 2313, 2314, 2315, 2316, 2317, 2318, 2319, 2320, 2321, 2322, 2323, 2324, 2325, 2326, 2327, 2328, 2329, 2330, 2331, 2332, 2333, 2334, 2335, 2336, 2337, 2338, 2339, 2340, 2341, 2342, 2343, 2344, 2345, 2346, 2347, 2348, 2349, 2350, 2351, 2352, 2353, 2354, 2355, 2356, 2357, 2358, 2359, 2360, 2361, 2362, 2363, 2364, 2365, 2366, 2367]),
  (2431, [2368, 2369, 2370, 2371, 2372, 2373, 2374, 2375, 2376, 2377, 2378, 2379, 2380, 2381, 2382, 2383, 2384, 2385, 2386, 2387, 2388, 2389, 2390, 2391, 2392, 2393, 2394, 2395, 2396, 2397, 2398, 2399, 2400, 2401, 2402, 2403, 2404, 2405, 2406, 2407, 2408, 2409, 2410, 2411, 2412, 2413, 2414, 2415, 2416, 2417, 2418, 2419, 2420, 2421, 2422, 2423, 2424, 2425, 2426, 2427, 2428, 2429, 2430, 2431]),
  (2495, [2432, 2433, 2434, 2435, 2436, 2437, 2438, 2439, 2440, 2441, 2442, 2443, 2444, 2445, 2446, 2447, 2448, 2449, 2450, 2451, 2452, 2453, 2454, 2455, 2456, 2457, 2458, 2459, 2460, 2461, 2462, 2463, 2464, 2465, 2466, 2467, 2468, 2469, 2470, 2471, 2472, 2473, 2474, 2475, 2476, 2477, 2478, 2479, 2480, 2481, 2482, 2483, 2484, 2485, 2486, 2487, 2488, 2489, 2490, 2491, 2492, 2493, 2494, 2495]),
  (2559, [2496, 2497, 2498, 2499, 2500, 2501, 2502, 2503, 2504, 2505, 2506, 2507, 2508, 2509, 2510, 2511, 2512, 2513, 2514, 2515, 2516, 2517, 2518, 2519, 2520, 2521, 2522, 2523, 2524, 2525, 2526, 2527, 2528, 2529, 2530, 2531, 2532, 2533, 2534, 2535, 2536, 2537, 2538, 2539, 2540, 2541, 2542, 2543, 2544, 2545, 2546, 2547, 2548, 2549, 2550, 2551, 2552, 2553, 2554, 2555, 2556, 2557, 2558, 2559]),
  (2623, [2560, 2561, 2562, 2563, 2564, 2565, 2566, 2567, 2568, 2569, 2570, 2571, 2572, 2573, 2574, 2575, 2576, 2577, 2578, 2579, 2580, 2581, 2582, 2583, 2584, 2585, 2586, 2587, 2588, 2589, 2590, 2591, 2592, 2593, 2594, 2595, 2596, 2597, 2598, 2599, 2600, 2601, 2602, 2603, 2604, 2605, 2606, 2607, 2608, 2609, 2610, 2611, 2612, 2613, 2614, 2615, 2616, 2617, 2618, 2619, 2620, 2621, 2622, 2623]),
  (2687, [2624, 2625, 2626, 2627, 2628, 2629, 2630, 2631, 2632, 2633, 2634, 2635, 2636, 2637, 2638, 2639, 2640, 2641, 2642, 2643, 2644, 2645, 2646, 2647, 2648, 2649, 2650, 2651, 2652, 2653, 2654, 2655, 2656, 2657, 2658, 2659, 2660, 2661, 2662, 2663, 2664, 2665, 2666, 2667, 2668, 2669, 2670, 2671, 2672, 2673, 2674, 2675, 2676, 2677, 2678, 2679, 2680, 2681, 2682, 2683, 2684, 2685, 2686, 2687]),
  (2751, [2688, 2689, 2690, 2691, 2692, 2693, 2694, 2695, 2696, 2697, 2698, 2699, 2700, 2701, 2702, 2703, 2704, 2705, 2706, 2707, 2708, 2709, 2710, 2711, 2712, 2713, 2714, 2715, 2716, 2717, 2718, 2719, 2720, 2721, 2722, 2723, 2724, 2725, 2726, 2727, 2728, 2729, 2730, 2731, 2732, 2733, 2734, 2735, 2736, 2737, 2738, 2739, 2740, 2741, 2742, 2743, 2744, 2745, 2746, 2747, 2748, 2749, 2750, 2751]),
  (2815, [2752, 2753, 2754, 2755, 2756, 2757, 2758, 2759, 2760, 2761, 2762, 2763, 2764, 2765, 2766, 2767, 2768, 2769, 2770, 2771, 2772, 2773, 2774, 2775, 2776, 2777, 2778, 2779, 2780, 2781, 2782, 2783, 2784, 2785, 2786, 2787, 2788, 2789, 2790, 2791, 2792, 2793, 2794, 2795, 2796, 2797, 2798, 2799, 2800, 2801, 2802, 2803, 2804, 2805, 2806, 2807, 2808, 2809, 2810, 2811, 2812, 2813, 2814, 2815]),
  (2879, [2816, 2817, 2818, 2819, 2820, 2821, 2822, 2823, 2824, 2825, 2826, 2827, 2828, 2829, 2830, 2831, 2832, 2833, 2834, 2835, 2836, 2837, 2838, 2839, 2840, 2841, 2842, 2843, 2844, 2845, 2846, 2847, 2848, 2849, 2850, 2851, 2852, 2853, 2854, 2855, 2856, 2857, 2858, 2859, 2860, 2861, 2862, 2863, 2864, 2865, 2866, 2867, 2868, 2869, 2870, 2871, 2872, 2873, 2874, 2875, 2876, 2877, 2878, 2879]),
  (2943, [2880, 2881, 2882, 2883, 2884, 2885, 2886, 2887, 2888, 2889, 2890, 2891, 2892, 2893, 2894, 2895, 2896, 2897, 2898, 2899, 2900, 2901, 2902, 2903, 2904, 2905, 2906, 2907, 2908, 2909, 2910, 2911, 2912, 2913, 2914, 2915, 2916, 2917, 2918, 2919, 2920, 2921, 2922, 2923, 2924, 2925, 2926, 2927, 2928, 2929, 2930, 2931, 2932, 2933, 2934, 2935, 2936, 2937, 2938, 2939, 2940, 2941, 2942, 2943]),
  (3007, [2944, 2945, 2946, 2947, 2948, 2949, 2950, 2951, 2952, 2953, 2954, 2955, 2956, 2957, 2958, 2959, 2960, 2961, 2962, 2963, 2964, 2965, 2966, 2967, 2968, 2969, 2970, 2971, 2972, 2973, 2974, 2975, 2976, 2977, 2978, 2979, 2980, 2981, 2982, 2983, 2984, 2985, 2986, 2987, 2988, 2989, 2990, 2991, 2992, 2993, 2994, 2995, 2996, 2997, 2998, 2999, 3000, 3001, 3002, 3003, 3004, 3005, 3006, 3007]),
  (3071, [3008, 3009, 3010, 3011, 3012, 3013, 3014, 3015, 3016, 3017, 3018, 3019, 3020, 3021, 3022, 3023, 3024, 3025, 3026, 3027, 3028, 3029, 3030, 3031, 3032, 3033, 3034, 3035, 3036, 3037, 3038, 3039, 3040, 3041, 3042, 3043, 3044, 3045, 3046, 3047, 3048, 3049, 3050, 3051, 3052, 3053, 3054, 3055, 3056, 3057, 3058, 3059, 3060, 3061, 3062, 3063, 3064, 3065, 3066, 3067, 3068, 3069, 3070, 3071]),
  (3135, [3072, 3073, 3074, 3075, 3076, 3077, 3078, 3079, 3080, 3081, 3082, 3083, 3084, 3085, 3086, 3087, 3088, 3089, 3090, 3091, 3092, 3093, 3094, 3095, 3096, 3097, 3098, 3099, 3100, 3101, 3102, 3103, 3104, 3105, 3106, 3107, 3108, 3109, 3110, 3111, 3112, 3113, 3114, 3115, 3116, 3117, 3118, 3119, 3120, 3121, 3122, 3123, 3124, 3125, 3126, 3127, 3128, 3129, 3130, 3131, 3132, 3133, 3134, 3135]),
  (3199, [3136, 3137, 3138, 3139, 3140, 3141, 3142, 3143, 3144, 3145, 3146, 3147, 3148, 3149, 3150, 3151, 3152, 3153, 3154, 3155, 3156, 3157, 3158, 3159, 3160, 3161, 3162, 3163, 3164, 3165, 3166, 3167, 3168, 3169, 3170, 3171, 3172, 3173, 3174, 3175, 3176, 3177, 3178, 3179, 3180, 3181, 3182, 3183, 3184, 3185, 3186, 3187, 3188, 3189, 3190, 3191, 3192, 3193, 3194, 3195, 3196, 3197, 3198, 3199]),
  (3263, [3200, 3201, 3202, 3203, 3204, 3205, 3206, 3207, 3208, 3209, 3210, 3211, 3212, 3213, 3214, 3215, 3216, 3217, 3218, 3219, 3220, 3221, 3222, 3223, 3224, 3225, 3226, 3227, 3228, 3229, 3230, 3231, 3232, 3233, 3234, 3235, 3236, 3237, 3238, 3239, 3240, 3241, 3242, 3243, 3244, 3245, 3246, 3247, 3248, 3249, 3250, 3251, 3252, 3253, 3254, 3255, 3256, 3257, 3258, 3259, 3260, 3261, 3262, 3263]),
  (3327, [3264, 3265, 3266, 3267, 3268, 3269, 3270, 3271, 3272, 3273, 3274, 3275, 3276, 3277, 3278, 3279, 3280, 3281, 3282, 3283, 3284, 3285, 3286, 3287, 3288, 3289, 3290, 3291, 3292, 3293, 3294, 3295, 3296, 3297, 3298, 3299, 3300, 3301, 3302, 3303, 3304, 3305, 3306, 3307, 3308, 3309, 3310, 3311, 3312, 3313, 3314, 3315, 3316, 3317, 3318, 3319, 3320, 3321, 3322, 3323, 3324, 3325, 3326, 3327]),
  (3391, [3328, 3329, 3330, 3331, 3332, 3333, 3334, 3335, 3336, 3337, 3338, 3339, 3340, 3341, 3342, 3343, 3344, 3345, 3346, 3347, 3348, 3349, 3350, 3351, 3352, 3353, 3354, 3355, 3356, 3357, 3358, 3359, 3360, 3361, 3362, 3363, 3364, 3365, 3366, 3367, 3368, 3369, 3370, 3371, 3372, 3373, 3374, 3375, 3376, 3377, 3378, 3379, 3380, 3381, 3382, 3383, 3384, 3385, 3386, 3387, 3388, 3389, 3390, 3391]),
  (3455, [3392, 3393, 3394, 3395, 3396, 3397, 3398, 3399, 3400, 3401, 3402, 3403, 3404, 3405, 3406, 3407, 3408, 3409, 3410, 3411, 3412, 3413, 3414, 3415, 3416, 3417, 3418, 3419, 3420, 3421, 3422, 3423, 3424, 3425, 3426, 3427, 3428, 3429, 3430, 3431, 3432, 3433, 3434, 3435, 3436, 3437, 3438, 3439, 3440, 3441, 3442, 3443, 3444, 3445, 3446, 3447, 3448, 3449, 3450, 3451, 3452, 3453, 3454, 3455]),
  (3519, [3456, 3457, 3458, 3459, 3460, 3461, 3462, 3463, 3464, 3465, 3466, 3467, 3468, 3469, 3470, 3471, 3472, 3473, 3474, 3475, 3476, 3477, 3478, 3479, 3480, 3481, 3482, 3483, 3484, 3485, 3486, 3487, 3488, 3489, 3490, 3491, 3492, 3493, 3494, 3495, 3496, 3497, 3498, 3499, 3500, 3501, 3502, 3503, 3504, 3505, 3506, 3507, 3508, 3509, 3510, 3511, 3512, 3513, 3514, 3515, 3516, 3517, 3518, 3519]),
  (3583, [3520, 3521, 3522, 3523, 3524, 3525, 3526, 3527, 3528, 3529, 3530, 3531, 3532, 3533, 3534, 3535, 3536, 3537, 3538, 3539, 3540, 3541, 3542, 3543, 3544, 3545, 3546, 3547, 3548, 3549, 3550, 3551, 3552, 3553, 3554, 3555, 3556, 3557, 3558, 3559, 3560, 3561, 3562, 3563, 3564, 3565, 3566, 3567, 3568, 3569, 3570, 3571, 3572, 3573, 3574, 3575, 3576, 3577, 3578, 3579, 3580, 3581, 3582, 3583]),
  (3647, [3584, 3585, 3586, 3587, 3588, 3589, 3590, 3591, 3592, 3593, 3594, 3595, 3596, 3597, 3598, 3599, 3600, 3601, 3602, 3603, 3604, 3605, 3606, 3607, 3608, 3609, 3610, 3611, 3612, 3613, 3614, 3615, 3616, 3617, 3618, 3619, 3620, 3621, 3622, 3623, 3624, 3625, 3626, 3627, 3628, 3629, 3630, 3631, 3632, 3633, 3634, 3635, 3636, 3637, 3638, 3639, 3640, 3641, 3642, 3643, 3644, 3645, 3646, 3647]),
  (3711, [3648, 3649, 3650, 3651, 3652, 3653, 3654, 3655, 3656, 3657, 3658, 3659, 3660, 3661, 3662, 3663, 3664, 3665, 3666, 3667, 3668, 3669, 3670, 3671, 3672, 3673, 3674, 3675, 3676, 3677, 3678, 3679, 3680, 3681, 3682, 3683, 3684, 3685, 3686, 3687, 3688, 3689, 3690, 3691, 3692, 3693, 3694, 3695, 3696, 3697, 3698, 3699, 3700, 3701, 3702, 3703, 3704, 3705, 3706, 3707, 3708, 3709, 3710, 3711]),
  (3775, [3712, 3713, 3714, 3715, 3716, 3717, 3718, 3719, 3720, 3721, 3722, 3723, 3724, 3725, 3726, 3727, 3728, 3729, 3730, 3731, 3732, 3733, 3734, 3735, 3736, 3737, 3738, 3739, 3740, 3741, 3742, 3743, 3744, 3745, 3746, 3747, 3748, 3749, 3750, 3751, 3752, 3753, 3754, 3755, 3756, 3757, 3758, 3759, 3760, 3761, 3762, 3763, 3764, 3765, 3766, 3767, 3768, 3769, 3770, 3771, 3772, 3773, 3774, 3775]),
  (3839, [3776, 3777, 3778, 3779, 3780, 3781, 3782, 3783, 3784, 3785, 3786, 3787, 3788, 3789, 3790, 3791, 3792, 3793, 3794, 3795, 3796, 3797, 3798, 3799, 3800, 3801, 3802, 3803, 3804, 3805, 3806, 3807, 3808, 3809, 3810, 3811, 3812, 3813, 3814, 3815, 3816, 3817, 3818, 3819, 3820, 3821, 3822, 3823, 3824, 3825, 3826, 3827, 3828, 3829, 3830, 3831, 3832, 3833, 3834, 3835, 3836, 3837, 3838, 3839]),
  (3903, [3840, 3841, 3842, 3843, 3844, 3845, 3846, 3847, 3848, 3849, 3850, 3851, 3852, 3853, 3854, 3855, 3856, 3857, 3858, 3859, 3860, 3861, 3862, 3863, 3864, 3865, 3866, 3867, 3868, 3869, 3870, 3871, 3872, 3873, 3874, 3875, 3876, 3877, 3878, 3879, 3880, 3881, 3882, 3883, 3884, 3885, 3886, 3887, 3888, 3889, 3890, 3891, 3892, 3893, 3894, 3895, 3896, 3897, 3898, 3899, 3900, 3901, 3902, 3903]),
  (3967, [3904, 3905, 3906, 3907, 3908, 3909, 3910, 3911, 3912, 3913, 3914, 3915, 3916, 3917, 3918, 3919, 3920, 3921, 3922, 3923, 3924, 3925, 3926, 3927, 3928, 3929, 3930, 3931, 3932, 3933, 3934, 3935, 3936, 3937, 3938, 3939, 3940, 3941, 3942, 3943, 3944, 3945, 3946, 3947, 3948, 3949, 3950, 3951, 3952, 3953, 3954, 3955, 3956, 3957, 3958, 3959, 3960, 3961, 3962, 3963, 3964, 3965, 3966, 3967]),
  (4031, [3968, 3969, 3970, 3971, 3972, 3973, 3974, 3975, 3976, 3977, 3978, 3979, 3980, 3981, 3982, 3983, 3984, 3985, 3986, 3987, 3988, 3989, 3990, 3991, 3992, 3993, 3994, 3995, 3996, 3997, 3998, 3999, 4000, 4001, 4002, 4003, 4004, 4005, 4006, 4007, 4008, 4009, 4010, 4011, 4012, 4013, 4014, 4015, 4016, 4017, 4018, 4019, 4020, 4021, 4022, 4023, 4024, 4025, 4026, 4027, 4028, 4029, 4030, 4031]),
  (4095, [4032, 4033, 4034, 4035, 4036, 4037, 4038, 4039, 4040, 4041, 4042, 4043, 4044, 4045, 4046, 4047, 4048, 4049, 4050, 4051, 4052, 4053, 4054, 4055, 4056, 4057, 4058, 4059, 4060, 4061, 4062, 4063, 4064, 4065, 4066, 4067, 4068, 4069, 4070, 4071, 4072, 4073, 4074, 4075, 4076, 4077, 4078, 4079, 4080, 4081, 4082, 4083, 4084, 4085, 4086, 4087, 4088, 4089, 4090, 4091, 4092, 4093, 4094, 4095])]
def litR : List Nat → Nat → (Nat → Prop) → Prop
  | [], n, K => K n
  | x :: r, n, K => match Nat.beq x n with
    | true => K x
    | false => litR r n K
set_option maxRecDepth 100000 in
def litHi : List Nat := [64, 65, 66, 67, 68, 69, 70, 71, 72, 73, 74, 75, 76, 77, 78, 79, 80, 81, 82, 83, 84, 85, 86, 87, 88, 89, 90, 91, 92, 93, 94, 95, 96, 97, 98, 99, 100, 101, 102, 103, 104, 105, 106, 107, 108, 109, 110, 111, 112, 113, 114, 115, 116, 117, 118, 119, 120, 121, 122, 123, 124, 125, 126, 127, 128, 129, 130, 131, 132, 133, 134, 135, 136, 137, 138, 139, 140, 141, 142, 143, 144, 145, 146, 147, 148, 149, 150, 151, 152, 153, 154, 155, 156, 157, 158, 159, 160, 161, 162, 163, 164, 165, 166, 167, 168, 169, 170, 171, 172, 173, 174, 175, 176, 177, 178, 179, 180, 181, 182, 183, 184, 185, 186, 187, 188, 189, 190, 191, 192, 193, 194, 195, 196, 197, 198, 199, 200, 201, 202, 203, 204, 205, 206, 207, 208, 209, 210, 211, 212, 213, 214, 215, 216, 217, 218, 219, 220, 221, 222, 223, 224, 225, 226, 227, 228, 229, 230, 231, 232, 233, 234, 235, 236, 237, 238, 239, 240, 241, 242, 243, 244, 245, 246, 247, 248, 249, 250, 251, 252, 253, 254, 255, 256, 257, 258, 259, 260, 261, 262, 263, 264, 265, 266, 267, 268, 269, 270, 271, 272, 273, 274, 275, 276, 277, 278, 279, 280, 281, 282, 283, 284, 285, 286, 287, 288, 289, 290, 291, 292, 293, 294, 295, 296, 297, 298, 299, 300, 301, 302, 303, 304, 305, 306, 307, 308, 309, 310, 311, 312, 313, 314, 315, 316, 317, 318, 319]
def litLo : List Nat := [0, 1, 2, 3, 4, 5, 6, 7, 8, 9, 10, 11, 12, 13, 14, 15, 16, 17, 18, 19, 20, 21, 22, 23, 24, 25, 26, 27, 28, 29, 30, 31, 32, 33, 34, 35, 36, 37, 38, 39, 40, 41, 42, 43, 44, 45, 46, 47, 48, 49, 50, 51, 52, 53, 54, 55, 56, 57, 58, 59, 60, 61, 62, 63]
def litB : List Nat → Nat → Nat → (Nat → Prop) → Prop
  | [], _, n, K => K n
  | b :: r, a, n, K => match Nat.beq (Nat.add (Nat.mul 64 a) b) n with
    | true => K (Nat.add (Nat.mul 64 a) b)
    | false => litB r a n K
def litA : List Nat → Nat → (Nat → Prop) → Prop
  | [], n, K => K n
  | a :: r, n, K => match Nat.ble n (Nat.add (Nat.mul 64 a) 63) with
    | true => litB litLo a n K
    | false => litA r n K
theorem litB_eq (l : List Nat) (a n : Nat) (K : Nat → Prop) : litB l a n K = K n := by
  induction l with
  | nil => rfl
  | cons x r ih =>
    simp only [litB]
    cases h : Nat.beq (Nat.add (Nat.mul 64 a) x) n with
    | true => rw [Nat.eq_of_beq_eq_true h]
    | false => exact ih
theorem litA_eq (l : List Nat) (n : Nat) (K : Nat → Prop) : litA l n K = K n := by
  induction l with
  | nil => rfl
  | cons x r ih =>
    simp only [litA]
    cases Nat.ble n (Nat.add (Nat.mul 64 x) 63) with
    | true => exact litB_eq _ _ _ _
    | false => exact ih
def litT : List (Nat × List Nat) → Nat → (Nat → Prop) → Prop
  | [], n, K => litA litHi n K
  | (h, l) :: r, n, K => match Nat.ble n h with
    | true => litR l n K
    | false => litT r n K
/-- A number that is known, as a numeral. -/
def frcN (n : Nat) (K : Nat → Prop) : Prop := litT litTab n K
theorem litR_eq (l : List Nat) (n : Nat) (K : Nat → Prop) : litR l n K = K n := by
  induction l with
  | nil => rfl
  | cons x r ih =>
    simp only [litR]
    cases h : Nat.beq x n with
    | true => rw [Nat.eq_of_beq_eq_true h]
    | false => exact ih
theorem litT_eq (l : List (Nat × List Nat)) (n : Nat) (K : Nat → Prop) : litT l n K = K n := by
  induction l with
  | nil => exact litA_eq _ _ _
  | cons x r ih =>
    obtain ⟨h, s⟩ := x
    simp only [litT]
    cases Nat.ble n h with
    | true => exact litR_eq _ _ _
    | false => exact ih
def frcNs (l : List Nat) (K : List Nat → Prop) : Prop := match l with
  | [] => K []
  | n :: r => frcN n fun n => frcNs r fun r => K (n :: r)
def frcC (c : Cell) (K : Cell → Prop) : Prop := match c with
  | .nc x => K (.nc x)
  | .nil => K .nil
  | .own l sz off n => frcN l fun l => K (.own l sz off n)
  | .ptr l sz i j => frcN l fun l => K (.ptr l sz i j)
  | .ip m g => K (.ip m g)
  | .fn f caps => frcNs caps fun caps => K (.fn f caps)
  | .mp l => frcN l fun l => K (.mp l)
def frcCs (l : List Cell) (K : List Cell → Prop) : Prop := match l with
  | [] => K []
  | c :: r => frcC c fun c => frcCs r fun r => K (c :: r)
def frcE (x : EV) (K : EV → Prop) : Prop := match x with
  | .c c => frcC c fun c => K (.c c)
  | .agg cs => frcCs cs fun cs => K (.agg cs)
  | .u => K .u
def frcEs (l : List EV) (K : List EV → Prop) : Prop := match l with
  | [] => K []
  | c :: r => frcE c fun c => frcEs r fun r => K (c :: r)
def frcT (x : TV) (K : TV → Prop) : Prop := match x with
  | .e x => frcE x fun x => K (.e x)
  | .tup l => frcEs l fun l => K (.tup l)
  | .wh s p x => frcE x fun x => K (.wh s p x)
def frcB (b : Blk) (K : Blk → Prop) : Prop := match b with
  | .var cs => frcCs cs fun cs => K (.var cs)
  | .arr sz bw n c g h => match h with
    | none => K (.arr sz bw n c g none)
    | some (i, j, x) => frcC x fun x => K (.arr sz bw n c g (some (i, j, x)))
  | .pre cs => frcCs cs fun cs => K (.pre cs)
  | .mpB f => K (.mpB f)
  | .mpS f => K (.mpS f)
def frcG (g : Gd) (K : Gd → Prop) : Prop := match g with
  | none => K none
  | some (s, p) => match p with
    | true => K (some (s, true))
    | false => K (some (s, false))
def frcTm (l : List (Nat × TV)) (K : List (Nat × TV) → Prop) : Prop := match l with
  | [] => K []
  | (k, v) :: r => frcT v fun v => frcTm r fun r => K ((k, v) :: r)
def frcHp (l : List (Nat × HE)) (K : List (Nat × HE) → Prop) : Prop := match l with
  | [] => K []
  | (k, (g, b)) :: r => frcN k fun k => frcG g fun g => frcB b fun b => frcHp r fun r => K ((k, (g, b)) :: r)
def frcS (σ : AS) (K : AS → Prop) : Prop := match σ with
  | ⟨tm, hp, nx, nt⟩ => frcTm tm fun tm => frcHp hp fun hp => frcN nx fun nx => frcN nt fun nt => K ⟨tm, hp, nx, nt⟩
def frcM (l : Pr) (K : Pr → Prop) : Prop := match l with
  | [] => K []
  | (k, v) :: r => frcN k fun k => frcN v fun v => frcM r fun r => K ((k, v) :: r)
def frcNN (l : List (List Nat)) (K : List (List Nat) → Prop) : Prop := match l with
  | [] => K []
  | x :: r => frcNs x fun x => frcNN r fun r => K (x :: r)

theorem frcN_eq (n : Nat) (K : Nat → Prop) : frcN n K = K n := litT_eq _ _ _
theorem frcNs_eq (l : List Nat) (K : List Nat → Prop) : frcNs l K = K l := by
  induction l generalizing K with
  | nil => rfl
  | cons n r ih => simp only [frcNs, frcN_eq, ih]
theorem frcC_eq (c : Cell) (K : Cell → Prop) : frcC c K = K c := by cases c <;> simp only [frcC, frcN_eq, frcNs_eq]
theorem frcCs_eq (l : List Cell) (K : List Cell → Prop) : frcCs l K = K l := by
  induction l generalizing K with
  | nil => rfl
  | cons n r ih => simp only [frcCs, frcC_eq, ih]
theorem frcE_eq (c : EV) (K : EV → Prop) : frcE c K = K c := by cases c <;> simp only [frcE, frcC_eq, frcCs_eq]
theorem frcEs_eq (l : List EV) (K : List EV → Prop) : frcEs l K = K l := by
  induction l generalizing K with
  | nil => rfl
  | cons n r ih => simp only [frcEs, frcE_eq, ih]
theorem frcT_eq (c : TV) (K : TV → Prop) : frcT c K = K c := by cases c <;> simp only [frcT, frcE_eq, frcEs_eq]
theorem frcB_eq (b : Blk) (K : Blk → Prop) : frcB b K = K b := by
  cases b with
  | arr sz bw n c g h =>
    cases h with
    | none => rfl
    | some x => obtain ⟨i, j, x⟩ := x; simp only [frcB, frcC_eq]
  | _ => simp only [frcB, frcCs_eq]
theorem frcG_eq (g : Gd) (K : Gd → Prop) : frcG g K = K g := by
  cases g with
  | none => rfl
  | some x => obtain ⟨s, p⟩ := x; cases p <;> rfl
theorem frcTm_eq (l : List (Nat × TV)) (K : List (Nat × TV) → Prop) : frcTm l K = K l := by
  induction l generalizing K with
  | nil => rfl
  | cons n r ih => obtain ⟨k, v⟩ := n; simp only [frcTm, frcT_eq, ih]
theorem frcHp_eq (l : List (Nat × HE)) (K : List (Nat × HE) → Prop) : frcHp l K = K l := by
  induction l generalizing K with
  | nil => rfl
  | cons n r ih => obtain ⟨k, g, b⟩ := n; simp only [frcHp, frcN_eq, frcG_eq, frcB_eq, ih]
theorem frcS_eq (σ : AS) (K : AS → Prop) : frcS σ K = K σ := by cases σ; simp only [frcS, frcTm_eq, frcHp_eq, frcN_eq]
theorem frcM_eq (l : Pr) (K : Pr → Prop) : frcM l K = K l := by
  induction l generalizing K with
  | nil => rfl
  | cons n r ih => obtain ⟨k, v⟩ := n; simp only [frcM, frcN_eq, ih]
theorem frcNN_eq (l : List (List Nat)) (K : List (List Nat) → Prop) : frcNN l K = K l := by
  induction l generalizing K with
  | nil => rfl
  | cons n r ih => simp only [frcNN, frcNs_eq, ih]

/-! ### What an operation does, written out -/
def putK {α : Type} : List (Nat × α) → Nat → α → (List (Nat × α) → Prop) → Prop
  | [], l, b, K => K [(l, b)]
  | (k, v) :: r, l, b, K => match Nat.beq k l with
    | true => K ((k, b) :: r)
    | false => putK r l b fun r => K ((k, v) :: r)
theorem putK_eq {α : Type} (h : List (Nat × α)) (l : Nat) (b : α) (K : List (Nat × α) → Prop) : putK h l b K = K (putH h l b) := by
  induction h generalizing K with
  | nil => rfl
  | cons x r ih =>
    obtain ⟨k, v⟩ := x
    simp only [putK, putH]
    cases Nat.beq k l with
    | true => rfl
    | false => exact ih _
def delK {α : Type} : List (Nat × α) → Nat → (List (Nat × α) → Prop) → Prop
  | [], l, K => K []
  | (k, v) :: r, l, K => match Nat.beq k l with
    | true => delK r l K
    | false => delK r l fun r => K ((k, v) :: r)
theorem delK_eq {α : Type} (h : List (Nat × α)) (l : Nat) (K : List (Nat × α) → Prop) : delK h l K = K (delH h l) := by
  induction h generalizing K with
  | nil => rfl
  | cons x r ih =>
    obtain ⟨k, v⟩ := x
    simp only [delK, delH]
    cases Nat.beq k l with
    | true => exact ih _
    | false => exact ih _
def edK (id : Nat) (g : Gd) : List (Nat × HE) → Eds → (List (Nat × HE) → Prop) → Prop
  | h, [], K => K h
  | h, (l, some b) :: r, K => frcN l fun l => frcG (newTag id g l) fun t => frcB b fun b => putK h l (t, b) fun h => edK id g h r K
  | h, (l, none) :: r, K => delK h l fun h => edK id g h r K
theorem edK_eq (id : Nat) (g : Gd) (h : List (Nat × HE)) (es : Eds) (K : List (Nat × HE) → Prop) : edK id g h es K = K (edH id g h es) := by
  induction es generalizing h with
  | nil => rfl
  | cons x r ih =>
    obtain ⟨l, b⟩ := x
    cases b with
    | none => simp only [edK, edH, delK_eq, ih]
    | some b => simp only [edK, edH, frcN_eq, frcG_eq, frcB_eq, putK_eq, ih]
def tmK (g : Gd) (d : Nat) (v : TV) (tm : List (Nat × TV)) (K : List (Nat × TV) → Prop) : Prop := match g with
  | none => match v with
    | .e x => frcE x fun x => K ((d, .e x) :: tm)
    | .tup l => frcEs l fun l => K ((d, .tup l) :: tm)
    | .wh s p x => match Nat.beq d s with
      | true => K ((d, .e .any) :: tm)
      | false => frcE x fun x => K ((d, .wh s p x) :: tm)
  | some (s, p) => match v with
    | .e x => match Nat.beq s d with
      | true => K ((d, .e .any) :: tm)
      | false => frcE x fun x => K ((d, .wh s p x) :: tm)
    | _ => K ((d, .e .any) :: tm)
theorem tmK_eq (g : Gd) (d : Nat) (v : TV) (tm : List (Nat × TV)) (K : List (Nat × TV) → Prop) : tmK g d v tm K = K (tmPut g d v tm) := by
  cases g with
  | none =>
    cases v with
    | e x => simp only [tmK, frcE_eq, tmPut, filt]
    | tup l => simp only [tmK, frcEs_eq, tmPut, filt]
    | wh s p x =>
      simp only [tmK, tmPut, filt, hasN, frcE_eq]
      cases Nat.beq d s <;> rfl
  | some sp =>
    obtain ⟨s, p⟩ := sp
    cases v with
    | e x =>
      simp only [tmK, tmPut, frcE_eq]
      cases Nat.beq s d <;> rfl
    | tup l => rfl
    | wh s p x => rfl
def appK (σ : AS) (id : Nat) (g : Gd) (d : Option Nat) (v : TV) (es : Eds) (K : AS → Prop) : Prop := match σ with
  | ⟨tm, hp, nx, nt⟩ => edK id g hp es fun hp => match d with
    | none => K ⟨tm, hp, nx, nt⟩
    | some d => tmK g d v tm fun tm => K ⟨tm, hp, nx, nt⟩
theorem appK_eq (σ : AS) (id : Nat) (g : Gd) (d : Option Nat) (v : TV) (es : Eds) (K : AS → Prop) : appK σ id g d v es K = K (σ.app id g d v es) := by
  cases σ
  simp only [appK, edK_eq, AS.app]
  cases d with
  | none => rfl
  | some d => simp only [tmK_eq]

/-! ### Matching, leaf by leaf -/
def mtCK (hp : List (Nat × HE)) (m : Pr) (ln : List Nat) (c d : Cell) (K : Prop) : Prop := match c, d with
  | _, .nc (.f .any) => K
  | .nc x, .nc y => x.Eqv y ∧ K
  | .nil, .nil => K
  | .nil, .nc (.f (.sl sz _ n _)) => (0 < sz ∧ n = 0) ∧ K
  | .nil, .own l _ off n => match lkH m l with
    | none => (off = 0 ∧ n = 0) ∧ K
    | some _ => False
  | .own l sz off n, .own l' sz' off' n' => match lkH m l' with
    | some x => match Nat.beq x l with
      | true => (sz = sz' ∧ off = off' ∧ n = n') ∧ K
      | false => False
    | none => False
  | .own l sz off n, .nc (.f y) => match lkH hp l with
    | some (none, .arr sz' bw n0 _ g none) => match hasN ln l, hasV m l with
      | true, false => (sz = sz' ∧ off + n ≤ n0 ∧ (FC.sl sz bw n fun i j => (g (off + i) j).unf).Eqv y) ∧ K
      | _, _ => False
    | _ => False
  | .ptr l sz i j, .ptr l' sz' i' j' => match lkH m l' with
    | some x => match Nat.beq x l with
      | true => (i * sz + j = i' * sz' + j') ∧ K
      | false => False
    | none => False
  | .ip k g, .ip k' g' => (0 < k' ∧ k' ≤ k ∧ ∀ j, j < k' → (g j).Eqv (g' j)) ∧ K
  | .fn f caps, .fn f' caps' => (f = f' ∧ caps'.map (lkH m) = caps.map some) ∧ K
  | .mp l, .mp l' => match lkH m l' with
    | some x => match Nat.beq x l with
      | true => K
      | false => False
    | none => False
  | _, _ => False
theorem beq_some {x l : Nat} {p K : Prop} : (match Nat.beq x l with
    | true => p ∧ K
    | false => False) = ((some x = some l ∧ p) ∧ K) := by
  cases h : Nat.beq x l with
  | true => have := Nat.eq_of_beq_eq_true h; subst this; simp
  | false => have := Nat.ne_of_beq_eq_false h; simp [this]
theorem mtCK_own {hp : List (Nat × HE)} {m : Pr} {ln : List Nat} {l sz off n : Nat} {y : FC} {K : Prop} : (match lkH hp l with
    | some (none, .arr sz' bw n0 _ g none) => match hasN ln l, hasV m l with
      | true, false => (sz = sz' ∧ off + n ≤ n0 ∧ (FC.sl sz bw n fun i j => (g (off + i) j).unf).Eqv y) ∧ K
      | _, _ => False
    | _ => False) = ((match lkH hp l with
    | some (none, .arr sz' bw n0 _ g none) => sz = sz' ∧ hasN ln l = true ∧ hasV m l = false ∧ off + n ≤ n0 ∧ (FC.sl sz bw n fun i j => (g (off + i) j).unf).Eqv y
    | _ => False) ∧ K) := by
  split
  · cases hasN ln l <;> cases hasV m l <;> simp
  · simp
theorem mtCK_eq (hp : List (Nat × HE)) (m : Pr) (ln : List Nat) (c d : Cell) (K : Prop) : mtCK hp m ln c d K = (mtC hp m ln c d ∧ K) := by
  cases d with
  | nc x =>
    cases x with
    | f y =>
      cases y with
      | any => cases c <;> simp only [mtCK, mtC, true_and]
      | _ => cases c <;> first | (simp only [mtCK, mtC, false_and]; done) | exact mtCK_own
    | uq sz bw n g => cases c <;> simp only [mtCK, mtC, false_and]
  | nil => cases c <;> simp only [mtCK, mtC, false_and, true_and]
  | own l' sz' off' n' =>
    cases c with
    | nil => simp only [mtCK, mtC]; cases lkH m l' <;> simp
    | own l sz off n => simp only [mtCK, mtC]; cases h : lkH m l' with
      | none => simp
      | some x => simp only [beq_some]
    | _ => simp only [mtCK, mtC, false_and]
  | ptr l' sz' i' j' =>
    cases c with
    | ptr l sz i j => simp only [mtCK, mtC]; cases h : lkH m l' with
      | none => simp
      | some x => simp only [beq_some]
    | _ => simp only [mtCK, mtC, false_and]
  | ip k' g' => cases c <;> simp only [mtCK, mtC, false_and]
  | fn f caps => cases c <;> simp only [mtCK, mtC, false_and]
  | mp l' =>
    cases c with
    | mp l => simp only [mtCK, mtC]; cases h : lkH m l' with
      | none => simp
      | some x =>
        simp only
        cases hb : Nat.beq x l with
        | true => have := Nat.eq_of_beq_eq_true hb; subst this; simp
        | false => have := Nat.ne_of_beq_eq_false hb; simp [this]
    | _ => simp only [mtCK, mtC, false_and]
def mtLK (hp : List (Nat × HE)) (m : Pr) (ln : List Nat) : List Cell → List Cell → Prop → Prop
  | [], [], K => K
  | c :: r, d :: s, K => mtCK hp m ln c d (mtLK hp m ln r s K)
  | _, _, _ => False
theorem mtLK_eq (hp : List (Nat × HE)) (m : Pr) (ln : List Nat) (c d : List Cell) (K : Prop) : mtLK hp m ln c d K = (mtL hp m ln c d ∧ K) := by
  induction c generalizing d with
  | nil => cases d <;> simp [mtLK, mtL]
  | cons x r ih => cases d with
    | nil => simp [mtLK, mtL]
    | cons y s => simp only [mtLK, mtL, mtCK_eq, ih, and_assoc]
def mtEK (hp : List (Nat × HE)) (m : Pr) (ln : List Nat) (x y : EV) (K : Prop) : Prop := match y with
  | .u => K
  | .c y => match plainB y with
    | true => match x with
      | .c x => mtCK hp m ln x y K
      | _ => False
    | false => False
  | .agg ds => match allPlain ds with
    | true => match x with
      | .agg cs => mtLK hp m ln cs ds K
      | _ => False
    | false => False
theorem mtEK_eq (hp : List (Nat × HE)) (m : Pr) (ln : List Nat) (x y : EV) (K : Prop) : mtEK hp m ln x y K = (mtE hp m ln x y ∧ K) := by
  cases y with
  | u => simp [mtEK, mtE]
  | c y =>
    simp only [mtEK]
    cases hy : plainB y <;> cases x <;> simp [mtE, hy, mtCK_eq]
  | agg ds =>
    simp only [mtEK]
    cases hy : allPlain ds <;> cases x <;> simp [mtE, hy, mtLK_eq]
def mtEsK (hp : List (Nat × HE)) (m : Pr) (ln : List Nat) : List (EV × EV) → Prop → Prop
  | [], K => K
  | (x, y) :: r, K => mtEK hp m ln x y (mtEsK hp m ln r K)
theorem mtEsK_eq (hp : List (Nat × HE)) (m : Pr) (ln : List Nat) (l : List (EV × EV)) (K : Prop) : mtEsK hp m ln l K = (mtEs hp m ln l ∧ K) := by
  induction l with
  | nil => simp [mtEsK, mtEs]
  | cons x r ih => obtain ⟨x, y⟩ := x; simp only [mtEsK, mtEs, mtEK_eq, ih, and_assoc]
def mtBK (hp : List (Nat × HE)) (m : Pr) (ln : List Nat) (A B : Blk) (K : Prop) : Prop := match A, B with
  | .var cs, .var ds => mtLK hp m ln cs ds K
  | .arr sz bw n c g none, .arr sz' bw' n' c' g' none => (sz = sz' ∧ bw = bw' ∧ n = n' ∧ (c' = none ∨ c = c')) ∧ (∀ i, i < n → ∀ j, j < sz → (g i j).Eqv (g' i j)) ∧ K
  | .mpB f, .mpB f' => (∀ k, f k = f' k) ∧ K
  | .mpS f, .mpS f' => (∀ k, f k = f' k) ∧ K
  | _, _ => False
theorem mtBK_eq (hp : List (Nat × HE)) (m : Pr) (ln : List Nat) (A B : Blk) (K : Prop) : mtBK hp m ln A B K = (mtB hp m ln A B ∧ K) := by
  cases A with
  | var cs => cases B <;> simp only [mtBK, mtB, mtLK_eq, false_and]
  | arr sz bw n c g h => cases h with
    | none => cases B with
      | arr sz' bw' n' c' g' h' => cases h' with
        | none => simp only [mtBK, mtB, and_assoc]
        | some x => simp only [mtBK, mtB, false_and]
      | _ => simp only [mtBK, mtB, false_and]
    | some x => cases B <;> simp only [mtBK, mtB, false_and]
  | pre cs => cases B <;> simp only [mtBK, mtB, false_and]
  | mpB f => cases B <;> simp only [mtBK, mtB, false_and]
  | mpS f => cases B <;> simp only [mtBK, mtB, false_and]
def mtHK (hp : List (Nat × HE)) (m : Pr) (ln : List Nat) : List (Nat × Blk) → Prop → Prop
  | [], K => K
  | (i, B) :: r, K => match lkH m i with
    | some l => match lkH hp l with
      | some (none, A) => mtBK hp m ln A B (mtHK hp m ln r K)
      | _ => False
    | none => mt0 B ∧ mtHK hp m ln r K
theorem mtHK_eq (hp : List (Nat × HE)) (m : Pr) (ln : List Nat) (l : List (Nat × Blk)) (K : Prop) : mtHK hp m ln l K = (mtH hp m ln l ∧ K) := by
  induction l with
  | nil => simp [mtHK, mtH]
  | cons x r ih =>
    obtain ⟨i, B⟩ := x
    simp only [mtHK, mtH]
    cases lkH m i with
    | none => simp only [ih, and_assoc]
    | some l =>
      simp only
      cases lkH hp l with
      | none => simp only [false_and]
      | some e =>
        obtain ⟨g, A⟩ := e
        cases g with
        | none => simp only [mtBK_eq, ih, and_assoc]
        | some x => simp only [false_and]
/-! ### Reading numbers off, with what was read written out -/
def addPK (m : Pr) (i l : Nat) (K : Pr → Prop) : Prop := match hasK m i with
  | true => K m
  | false => K ((i, l) :: m)
theorem addPK_eq (m : Pr) (ln : List Nat) (i l : Nat) (K : Pr → Prop) : addPK m i l K = K (addP (m, ln) i l).1 := by
  unfold addPK addP
  simp only
  cases hasK m i <;> rfl
theorem addP_snd (m : Pr) (ln : List Nat) (i l : Nat) : (addP (m, ln) i l).2 = ln := by
  unfold addP
  simp only
  cases hasK m i <;> rfl
def addPsK : Pr → List Nat → List Nat → (Pr → Prop) → Prop
  | m, i :: r, l :: s, K => addPK m i l fun m => addPsK m r s K
  | m, _, _, K => K m
theorem addPs_eq (ln : List Nat) : ∀ (xs ys : List Nat) (m : Pr) (K : Pr → Prop), addPsK m xs ys K = K (addPs (m, ln) xs ys).1 ∧ (addPs (m, ln) xs ys).2 = ln
  | i :: r, l :: s, m, K => by
    simp only [addPsK, addPs]
    rw [addPK_eq m ln]
    have e : addP (m, ln) i l = ((addP (m, ln) i l).1, ln) := Prod.ext rfl (addP_snd m ln i l)
    have := addPs_eq ln r s (addP (m, ln) i l).1 K
    rw [← e] at this
    exact this
  | [], _, m, K => ⟨rfl, rfl⟩
  | _ :: _, [], m, K => ⟨rfl, rfl⟩
def scanCK (m : Pr) (ln : List Nat) (c d : Cell) (K : Pr → List Nat → Prop) : Prop := match c, d with
  | .own l _ _ _, .own i _ _ _ => addPK m i l fun m => K m ln
  | .ptr l _ _ _, .ptr i _ _ _ => addPK m i l fun m => K m ln
  | .mp l, .mp i => addPK m i l fun m => K m ln
  | .fn _ caps, .fn _ caps' => addPsK m caps' caps fun m => K m ln
  | .own l _ _ _, .nc (.f (.sl _ _ _ _)) => match hasN ln l with
    | true => K m ln
    | false => K m (l :: ln)
  | _, _ => K m ln
theorem addP_pair (m : Pr) (ln : List Nat) (i l : Nat) (K : Pr → List Nat → Prop) : K (addP (m, ln) i l).1 ln = K (addP (m, ln) i l).1 (addP (m, ln) i l).2 := by rw [addP_snd]
theorem scanCK_eq (m : Pr) (ln : List Nat) (c d : Cell) (K : Pr → List Nat → Prop) : scanCK m ln c d K = K (scanC (m, ln) c d).1 (scanC (m, ln) c d).2 := by
  cases c with
  | nc x => rfl
  | nil => rfl
  | own l sz off n => cases d with
    | own i _ _ _ => simp only [scanCK, scanC, addPK_eq m ln, addP_snd]
    | nc x => cases x with
      | f y => cases y with
        | sl a b c e => simp only [scanCK, scanC]; cases hasN ln l <;> rfl
        | _ => rfl
      | uq _ _ _ _ => rfl
    | _ => rfl
  | ptr l sz i j => cases d with
    | ptr i _ _ _ => simp only [scanCK, scanC, addPK_eq m ln, addP_snd]
    | _ => rfl
  | ip _ _ => rfl
  | fn f caps => cases d with
    | fn f' caps' =>
      simp only [scanCK, scanC]
      rw [(addPs_eq ln caps' caps m _).1, (addPs_eq ln caps' caps m (fun _ => True)).2]
    | _ => rfl
  | mp l => cases d with
    | mp i => simp only [scanCK, scanC, addPK_eq m ln, addP_snd]
    | _ => rfl
def scanLK : Pr → List Nat → List Cell → List Cell → (Pr → List Nat → Prop) → Prop
  | m, ln, c :: r, d :: s, K => scanCK m ln c d fun m ln => scanLK m ln r s K
  | m, ln, _, _, K => K m ln
theorem scanLK_eq : ∀ (cs ds : List Cell) (m : Pr) (ln : List Nat) (K : Pr → List Nat → Prop), scanLK m ln cs ds K = K (scanL (m, ln) cs ds).1 (scanL (m, ln) cs ds).2
  | c :: r, d :: s, m, ln, K => by simp only [scanLK, scanL, scanCK_eq]; exact scanLK_eq r s _ _ K
  | [], _, _, _, _ => rfl
  | _ :: _, [], _, _, _ => rfl
def scanEK (m : Pr) (ln : List Nat) (x y : EV) (K : Pr → List Nat → Prop) : Prop := match x, y with
  | .c x, .c y => scanCK m ln x y K
  | .agg cs, .agg ds => scanLK m ln cs ds K
  | _, _ => K m ln
theorem scanEK_eq (m : Pr) (ln : List Nat) (x y : EV) (K : Pr → List Nat → Prop) : scanEK m ln x y K = K (scanE (m, ln) x y).1 (scanE (m, ln) x y).2 := by
  cases x <;> cases y <;> first | rfl | exact scanCK_eq _ _ _ _ _ | exact scanLK_eq _ _ _ _ _
def scanEsK : Pr → List Nat → List (EV × EV) → (Pr → List Nat → Prop) → Prop
  | m, ln, [], K => K m ln
  | m, ln, (x, y) :: r, K => scanEK m ln x y fun m ln => scanEsK m ln r K
theorem scanEsK_eq : ∀ (ps : List (EV × EV)) (m : Pr) (ln : List Nat) (K : Pr → List Nat → Prop), scanEsK m ln ps K = K (scanEs (m, ln) ps).1 (scanEs (m, ln) ps).2
  | [], _, _, _ => rfl
  | (x, y) :: r, m, ln, K => by simp only [scanEsK, scanEs, scanEK_eq]; exact scanEsK_eq r _ _ K
def scanHK (hp : List (Nat × HE)) : Pr → List Nat → List (Nat × Blk) → (Pr → List Nat → Prop) → Prop
  | m, ln, [], K => K m ln
  | m, ln, (i, .var ds) :: r, K => match lkH m i with
    | some l => match lkH hp l with
      | some (none, .var cs) => scanLK m ln cs ds fun m ln => scanHK hp m ln r K
      | _ => scanHK hp m ln r K
    | none => scanHK hp m ln r K
  | m, ln, _ :: r, K => scanHK hp m ln r K
theorem scanHK_eq (hp : List (Nat × HE)) : ∀ (H : List (Nat × Blk)) (m : Pr) (ln : List Nat) (K : Pr → List Nat → Prop), scanHK hp m ln H K = K (scanH hp (m, ln) H).1 (scanH hp (m, ln) H).2
  | [], _, _, _ => rfl
  | (i, b) :: r, m, ln, K => by
    cases b with
    | var ds =>
      simp only [scanHK, scanH]
      cases h1 : lkH m i with
      | none => exact scanHK_eq hp r _ _ K
      | some l =>
        simp only
        cases h2 : lkH hp l with
        | none => exact scanHK_eq hp r _ _ K
        | some e =>
          obtain ⟨g, A⟩ := e
          cases g with
          | some x => exact scanHK_eq hp r _ _ K
          | none => cases A with
            | var cs => simp only [scanLK_eq]; exact scanHK_eq hp r _ _ K
            | _ => exact scanHK_eq hp r _ _ K
    | _ => exact scanHK_eq hp r _ _ K
end Go.Ice
end

section
set_option linter.unusedVariables false
set_option linter.unusedSimpArgs false
namespace Go.Ice

/-! ### Calls -/
def callK (σ : AS) (m : Pr) (ln : List Nat) (ps : List (EV × EV)) (H : List (Nat × Blk)) (g : Gd) (p K : Prop) : Prop :=
  obG σ g p ∧ mtEsK (flatH g σ.hp) m ln ps (mtHK (flatH g σ.hp) m ln H K)
theorem callK_eq (σ : AS) (m : Pr) (ln : List Nat) (ps : List (EV × EV)) (H : List (Nat × Blk)) (g : Gd) (p K : Prop) :
    callK σ m ln ps H g p K = ((obG σ g p ∧ mtEs (flatH g σ.hp) m ln ps ∧ mtH (flatH g σ.hp) m ln H) ∧ K) := by
  simp only [callK, mtEsK_eq, mtHK_eq, and_assoc]
def stCallN (fx : Bool) (σ : AS) (id : Nat) (g : Gd) (S : FSpec) (xs : List EV) (F : TV → Eds → Prop) : Prop :=
  ∃ d, match zipE xs (S.args d) with
    | some ps => scanEsK [] [] ps fun m ln => scanHK (flatH g σ.hp) m ln (S.hin d) fun m ln => match callOk σ id g S.lend m ln (S.hin d) (S.hout d) (S.res d) with
        | true => callK σ m ln ps (S.hin d) g (S.pre d) (factsIf (fx && isNone g) (TV.facts (S.res d) ∧ hoFacts (S.hout d)) → F ((S.res d).ren (renI m id)) (outEds m id (S.hout d)))
        | false => False
    | none => False
theorem stCallN_eq (fx : Bool) (σ : AS) (id : Nat) (g : Gd) (S : FSpec) (xs : List EV) (F : TV → Eds → Prop) : stCallN fx σ id g S xs F = stCall fx σ id g S xs F := by
  unfold stCallN stCall
  simp only [scanEsK_eq, scanHK_eq, callK_eq]
  rfl
def stepN (T : Nat → TI) (Γ : Nat → FSpec) (fx : Bool) (σ : AS) (id : Nat) (g : Gd) (o : Oper) (F : TV → Eds → Prop) : Prop :=
  match o.op with
  | .call c => match c.callee with
    | .value fo => match opOk fo, c.args.toList.all opOk, opE σ g fo with
      | true, true, .c (.fn f caps) => stCallN fx σ id g (Γ f) (c.args.toList.map (opE σ g) ++ caps.map capE) F
      | _, _, _ => False
    | _ => step T Γ fx σ id g o F
  | _ => step T Γ fx σ id g o F
theorem stepN_eq (T : Nat → TI) (Γ : Nat → FSpec) (fx : Bool) (σ : AS) (id : Nat) (g : Gd) (o : Oper) (F : TV → Eds → Prop) : stepN T Γ fx σ id g o F = step T Γ fx σ id g o F := by
  unfold stepN
  split
  · rename_i c ho
    split
    · rename_i fo hc
      simp only [step, ho, stepCall, hc, stCallN_eq]
      rfl
    · rfl
  · rfl

/-! ### Regions in their order -/
def wpSeqN (T : Nat → TI) (Γ : Nat → FSpec) (all : List Oper) : List Oper → Nat → AS → (AS → Prop) → Prop
  | [], id, σ, K => match σ with
    | ⟨tm, hp, _, nt⟩ => K ⟨tm, hp, id, nt⟩
  | o :: r, id, σ, K => match gdOf all o.guard with
    | some g => match dstOk σ g o.dst with
      | true => stepN T Γ true σ id g o fun v es => match gEds g id es with
        | true => appK σ id g o.dst v es fun σ => frcN (id + 16) fun id => wpSeqN T Γ all r id σ K
        | false => False
      | false => False
    | none => False
theorem wpSeqN_eq (T : Nat → TI) (Γ : Nat → FSpec) (all : List Oper) (l : List Oper) (id : Nat) (σ : AS) (K : AS → Prop) : wpSeqN T Γ all l id σ K = wpSeq T Γ all l id σ K := by
  induction l generalizing id σ with
  | nil => cases σ; rfl
  | cons o r ih => simp only [wpSeqN, wpSeq, stepN_eq, appK_eq, frcN_eq, ih]; rfl
def fillN : Nat → AS → (AS → Prop) → Prop
  | 0, σ, K => K σ
  | f + 1, σ, K => match findHole σ.hp with
    | none => K σ
    | some l => match lkH σ.hp l with
      | some (none, .arr sz bw k c g (some (i, j, x))) => match x with
        | .nc y => match σ with
          | ⟨tm, hp, nx, nt⟩ => putK hp l (none, .arr sz bw k c (updA g i j [y]) none) fun hp => fillN f ⟨tm, hp, nx, nt⟩ K
        | .nil => match σ with
          | ⟨tm, hp, nx, nt⟩ => putK hp l (none, .arr sz bw k c (updA g i j [.uq 1 1 0 (fun _ _ => .f .any)]) none) fun hp => fillN f ⟨tm, hp, nx, nt⟩ K
        | .own l2 sz2 off n2 => match Nat.beq off 0, varNo l2 σ.hp, Nat.beq l2 l, lkH σ.hp l2 with
          | true, true, false, some (none, .arr sz3 bw2 n3 c2 g2 none) => match Nat.beq sz2 sz3 with
            | true => match σ with
              | ⟨tm, hp, nx, nt⟩ => Ob (n2 = n3) ∧ delK hp l2 fun hp => putK hp l (none, .arr sz bw k c (updA g i j [.uq sz2 bw2 n2 g2]) none) fun hp => fillN f ⟨tm, hp, nx, nt⟩ K
            | false => False
          | _, _, _, _ => K σ
        | _ => K σ
      | _ => K σ
theorem fillN_eq (f : Nat) (σ : AS) (K : AS → Prop) : fillN f σ K = fillK f σ K := by
  induction f generalizing σ with
  | zero => rfl
  | succ f ih =>
    obtain ⟨tm, hp, nx, nt⟩ := σ
    simp only [fillN, fillK, putK_eq, delK_eq, ih]
    rfl

/-! ### Drawn regions -/
def cleanK (ds : List Nat) : List Nat → List (Nat × TV) → (List (Nat × TV) → Prop) → Prop
  | _, [], K => K []
  | seen, (k, v) :: r, K => match hasN seen k with
    | true => cleanK ds seen r K
    | false => match hasN ds k, v with
      | false, .e x => cleanK ds (k :: seen) r fun t => K ((k, .e x) :: t)
      | false, .tup l => cleanK ds (k :: seen) r fun t => K ((k, .tup l) :: t)
      | _, _ => cleanK ds (k :: seen) r K
theorem cleanK_eq (ds : List Nat) (l : List (Nat × TV)) (seen : List Nat) (K : List (Nat × TV) → Prop) : cleanK ds seen l K = K (cleanT ds seen l) := by
  induction l generalizing seen K with
  | nil => rfl
  | cons x r ih =>
    obtain ⟨k, v⟩ := x
    simp only [cleanK, cleanT, ih]
    cases hasN seen k with
    | true => rfl
    | false => cases hasN ds k <;> cases v <;> rfl
def filtK (bs : List Nat) : VL → List (Nat × TV) → (List (Nat × TV) → Prop) → Prop
  | [], cl, K => K cl
  | (i, d, x) :: r, cl, K => match hasN bs i with
    | true => filtK bs r cl fun t => K ((d, x) :: t)
    | false => filtK bs r cl K
theorem filtK_eq (bs : List Nat) (V : VL) (cl : List (Nat × TV)) (K : List (Nat × TV) → Prop) : filtK bs V cl K = K (filtV bs V cl) := by
  induction V generalizing K with
  | nil => rfl
  | cons x r ih =>
    obtain ⟨i, d, v⟩ := x
    simp only [filtK, filtV]
    cases hasN bs i with
    | true => exact ih _
    | false => exact ih _
def allK : VL → List (Nat × TV) → (List (Nat × TV) → Prop) → Prop
  | [], cl, K => K cl
  | (_, d, x) :: r, cl, K => allK r cl fun t => K ((d, x) :: t)
theorem allK_eq (V : VL) (cl : List (Nat × TV)) (K : List (Nat × TV) → Prop) : allK V cl K = K (allV V cl) := by
  induction V generalizing K with
  | nil => rfl
  | cons x r ih => obtain ⟨i, d, v⟩ := x; exact ih _
def snocK {α : Type} : List α → α → (List α → Prop) → Prop
  | [], x, K => K [x]
  | y :: r, x, K => snocK r x fun t => K (y :: t)
theorem snocK_eq {α : Type} (l : List α) (x : α) (K : List α → Prop) : snocK l x K = K (l ++ [x]) := by
  induction l generalizing K with
  | nil => rfl
  | cons y r ih => exact ih _
def pvK (d : Option Nat) (i : Nat) (x : TV) (V : VL) (K : VL → Prop) : Prop := match d with
  | some d => K ((i, d, x) :: V)
  | none => K V
theorem pvK_eq (d : Option Nat) (i : Nat) (x : TV) (V : VL) (K : VL → Prop) : pvK d i x V K = K (pushV d i x V) := by cases d <;> rfl
def psK (es : Eds) (t i : Nat) (H : List (Nat × HE)) (SL : SLs) (E : List Nat) (K : SLs → List Nat → Prop) : Prop := match es with
  | [] => K SL E
  | _ :: _ => K ((t, H) :: SL) (i :: E)
theorem psK_eq (es : Eds) (t i : Nat) (H : List (Nat × HE)) (SL : SLs) (E : List Nat) (K : SLs → List Nat → Prop) : psK es t i H SL E K = K (pushS es t H SL) (pushE es i E) := by cases es <;> rfl
section
variable (T : Nat → TI) (Γ : Nat → FSpec) (all : List Oper) (B : List (List Nat)) (cl : List (Nat × TV)) (nt id0 : Nat)
def drGoN : List Oper → Nat → VL → List (Nat × HE) → SLs → List Nat → Acs → (VL → List (Nat × HE) → SLs → List Nat → Acs → Prop) → Prop
  | [], _, V, H, SL, E, acc, K => K V H SL E acc
  | o :: r, i, V, H, SL, E, acc, K => frcNs (B.getD i []) fun bs => frcN (id0 + 16 * i) fun id => match gdOf all o.guard with
    | some g => filtK bs V cl fun tm => match dstOk { tm := tm, hp := H, nx := 0, nt := nt } g o.dst with
      | true => stepN T Γ false { tm := tm, hp := H, nx := 0, nt := nt } id g o fun v es => frcT (stored g v) fun sv =>
        match gEds g id es && sv.all (idf id0 (i :: bs)) && (nil? es || hasAll bs E) with
        | true => pvK o.dst i sv V fun V => edK id g H es fun H => frcN (i + 1) fun i' => psK es i' i H SL E fun SL E => frcT v fun v => snocK acc (v, es) fun acc => drGoN r i' V H SL E acc K
        | false => False
      | false => False
    | none => False
theorem drGoN_eq (l : List Oper) (i : Nat) (V : VL) (H : List (Nat × HE)) (SL : SLs) (E : List Nat) (acc : Acs) (K : VL → List (Nat × HE) → SLs → List Nat → Acs → Prop) :
    drGoN T Γ all B cl nt id0 l i V H SL E acc K = drGo T Γ all B cl nt id0 l i V H SL E acc K := by
  induction l generalizing i V H SL E acc with
  | nil => rfl
  | cons o r ih => simp only [drGoN, drGo, frcNs_eq, frcN_eq, filtK_eq, stepN_eq, frcT_eq, pvK_eq, edK_eq, psK_eq, snocK_eq, ih]; rfl
def drStN (V : VL) (E : List Nat) (i : Nat) (o : Oper) (v : TV) : SLs → Prop → Prop
  | [], K => K
  | (t, H) :: r, K => match stageOk B i t E && !(stageIs i t E) with
    | true => frcNs (B.getD i []) fun bs => frcN (id0 + 16 * i) fun id => match gdOf all o.guard with
      | some g => filtK bs V cl fun tm => match dstOk { tm := tm, hp := H, nx := 0, nt := nt } g o.dst with
        | true => (stepN T Γ false { tm := tm, hp := H, nx := 0, nt := nt } id g o fun v' es' => v' = v ∧ es' = []) ∧ drStN V E i o v r K
        | false => False
      | none => False
    | false => drStN V E i o v r K
theorem drStN_eq (V : VL) (E : List Nat) (i : Nat) (o : Oper) (v : TV) (SL : SLs) (K : Prop) : drStN T Γ all B cl nt id0 V E i o v SL K = (drStages T Γ all B cl nt id0 V E i o v SL ∧ K) := by
  induction SL with
  | nil => simp [drStN, drStages]
  | cons x r ih =>
    obtain ⟨t, H⟩ := x
    simp only [drStN, drStages, frcNs_eq, frcN_eq, filtK_eq, stepN_eq, ih]
    cases stageOk B i t E && !(stageIs i t E) with
    | false => simp
    | true =>
      simp only
      cases gdOf all o.guard with
      | none => simp
      | some g =>
        simp only
        cases hd : dstOk { tm := filtV (B.getD i []) V cl, hp := H, nx := 0, nt := nt } g o.dst with
        | true => simp only [true_and, and_assoc]
        | false => simp
def drSnN (V : VL) (E : List Nat) (SL : SLs) : List Oper → Nat → Acs → Prop → Prop
  | o :: r, i, (v, es) :: s, K => match es with
    | [] => drStN T Γ all B cl nt id0 V E i o v SL (drSnN V E SL r (i + 1) s K)
    | _ => drSnN V E SL r (i + 1) s K
  | _, _, _, K => K
theorem drSnN_eq (V : VL) (E : List Nat) (SL : SLs) (l : List Oper) (i : Nat) (acc : Acs) (K : Prop) : drSnN T Γ all B cl nt id0 V E SL l i acc K = (drSnd T Γ all B cl nt id0 V E SL l i acc ∧ K) := by
  induction l generalizing i acc with
  | nil => simp [drSnN, drSnd]
  | cons o r ih => cases acc with
    | nil => simp [drSnN, drSnd]
    | cons x s =>
      obtain ⟨v, es⟩ := x
      cases es with
      | nil => simp only [drSnN, drSnd, drStN_eq, ih, and_assoc]
      | cons y ys => simp only [drSnN, drSnd, ih, true_and]
end
def nilK (E : List Nat) (p : Prop → Prop) (K : Prop) : Prop := match E with
  | [] => K
  | _ :: _ => p K
def preK (hp p : List (Nat × HE)) (K : List (Nat × HE) → Prop) : Prop := match p with
  | [] => K hp
  | x :: r => frcHp (hp ++ x :: r) K
theorem preK_eq (hp p : List (Nat × HE)) (K : List (Nat × HE) → Prop) : preK hp p K = K (hp ++ p) := by
  cases p with
  | nil => simp [preK]
  | cons x r => simp only [preK, frcHp_eq]
def wpDrN (T : Nat → TI) (Γ : Nat → FSpec) (ops : Array Oper) (K : AS → Prop) (σ : AS) : Prop := match σ with
  | ⟨tm0, hp0, nx, nt⟩ => frcN nx fun nx => frcN nt fun nt => frcNN (befGo ops.toList []) fun B => frcNs (dstsOf ops.toList) fun ds => cleanK ds [] tm0 fun cl => match statGo B ops.toList 0 && nodupN ds && AS.bd ⟨tm0, hp0, nx, nt⟩ nx with
    | true => preK hp0 (preOf T ops.toList 0 nx) fun hp0 => drGoN T Γ ops.toList B cl nt nx ops.toList 0 [] hp0 [(0, hp0)] [] [] fun V H SL E acc =>
        nilK E (drSnN T Γ ops.toList B cl nt nx V E SL ops.toList 0 acc) (allK V cl fun tm => frcN (nx + 16 * ops.toList.length) fun nx => K ⟨tm, H, nx, nt⟩)
    | false => False
theorem wpDrN_eq (T : Nat → TI) (Γ : Nat → FSpec) (ops : Array Oper) (K : AS → Prop) (σ : AS) : wpDrN T Γ ops K σ = wpDr T Γ ops K σ := by
  obtain ⟨tm, hp, nx, nt⟩ := σ
  unfold wpDrN wpDr
  simp only [frcNN_eq, frcNs_eq, cleanK_eq, preK_eq, drGoN_eq, drSnN_eq, allK_eq, frcN_eq]
  cases hb : (statGo (befGo ops.toList []) ops.toList 0 && nodupN (dstsOf ops.toList) && AS.bd ⟨tm, hp, nx, nt⟩ nx) with
  | false => rfl
  | true =>
    simp only
    congr 1
    funext V H SL E acc
    cases E with
    | nil => simp [nilK, nil?']
    | cons x r => simp [nilK, nil?', drSnN_eq]
theorem wpDrN_ok {P : Program} {T : Nat → TI} {Γ : Nat → FSpec} (hT : TOk P T) (hΓ : ΓOk P Γ) (hm : P.follows .mixedOrders = true) : DROk P (wpDrN T Γ) := by
  intro id ops Q σ h
  rw [wpDrN_eq] at h
  exact wpDr_ok hT hΓ hm id ops Q σ h
end Go.Ice
end

section
set_option linter.unusedVariables false
set_option linter.unusedSimpArgs false
namespace Go.Ice

/-! ### Matching a state with a shape -/
def MtN (σ : AS) (ps : List (EV × EV)) (H : List (Nat × Blk)) (K : Prop) : Prop :=
  frcM (ancs H) fun m => scanEsK m [] ps fun m ln => scanHK σ.hp m ln H fun m ln => match mtOk m ps H with
    | true => mtEsK σ.hp m ln ps (mtHK σ.hp m ln H K)
    | false => False
theorem MtN_eq (σ : AS) (ps : List (EV × EV)) (H : List (Nat × Blk)) (K : Prop) : MtN σ ps H K = (Mt σ ps H ∧ K) := by
  unfold MtN Mt
  simp only [frcM_eq, scanEsK_eq, scanHK_eq, mtEsK_eq, mtHK_eq]
  cases mtOk (scanH σ.hp (scanEs (ancs H, []) ps) H).fst ps H with
  | true => simp only; exact propext ⟨fun ⟨a, b, c⟩ => ⟨⟨⟨a, b⟩⟩, c⟩, fun ⟨⟨⟨a, b⟩⟩, c⟩ => ⟨a, b, c⟩⟩
  | false => simp
def EntN (σ : AS) (s : Sh) (K : Prop) : Prop := MtN σ (entPs σ s.tm) s.hp K
theorem EntN_eq (σ : AS) (s : Sh) (K : Prop) : EntN σ s K = (Ent σ s ∧ K) := MtN_eq _ _ _ _

/-! ### Shapes, told by what they change -/
def keysE : List (Nat × EV) → List Nat
  | [] => []
  | (k, _) :: r => k :: keysE r
/-- Slots that are kept: those that are told, where they hold something. -/
def keepT (ks : List Nat) : List Nat → List (Nat × TV) → List (Nat × EV)
  | _, [] => []
  | seen, (k, v) :: r => match hasN seen k with
    | true => keepT ks seen r
    | false => match hasN ks k, v with
      | true, .e x => (k, x) :: keepT ks (k :: seen) r
      | _, _ => keepT ks (k :: seen) r
def idsC : Cell → List Nat → List Nat
  | .own l _ _ _, s => l :: s
  | .ptr l _ _ _, s => l :: s
  | .fn _ caps, s => caps ++ s
  | .mp l, s => l :: s
  | _, s => s
def idsCs : List Cell → List Nat → List Nat
  | [], s => s
  | c :: r, s => idsC c (idsCs r s)
def idsE : EV → List Nat → List Nat
  | .c c, s => idsC c s
  | .agg cs, s => idsCs cs s
  | .u, s => s
def idsT : List (Nat × EV) → List Nat → List Nat
  | [], s => s
  | (_, x) :: r, s => idsE x (idsT r s)
def idsB : Blk → List Nat → List Nat
  | .var cs, s => idsCs cs s
  | _, s => s
def idsH (seen : List Nat) : List (Nat × Blk) → List Nat → List Nat
  | [], s => s
  | (l, b) :: r, s => match Nat.blt l 100 || hasN seen l with
    | true => idsB b (idsH seen r s)
    | false => idsH seen r s
def reach : Nat → List (Nat × Blk) → List Nat → List Nat
  | 0, _, s => s
  | f + 1, H, s => reach f H (unionN (idsH s H []) s)
def plainH : List (Nat × HE) → List (Nat × Blk)
  | [] => []
  | (l, (none, b)) :: r => (l, b) :: plainH r
  | _ :: r => plainH r
def setsH : List (Nat × Blk) → List (Nat × Blk) → List (Nat × Blk)
  | H, [] => H
  | H, (l, b) :: r => setsH (putH H l b) r
def gcH (s : List Nat) : List (Nat × Blk) → List (Nat × Blk)
  | [] => []
  | (l, b) :: r => match Nat.blt l 100 || hasN s l with
    | true => (l, b) :: gcH s r
    | false => gcH s r
def shOf (ks : List Nat) (σ : AS) (tE : List (Nat × EV)) (hE : List (Nat × Blk)) : Sh :=
  match tE ++ keepT ks (keysE tE) σ.tm, setsH (plainH σ.hp) hE with
  | tm, H => ⟨tm, gcH (reach 4 H (idsT tm [])) H⟩
def frcTE (l : List (Nat × EV)) (K : List (Nat × EV) → Prop) : Prop := match l with
  | [] => K []
  | (k, v) :: r => frcE v fun v => frcTE r fun r => K ((k, v) :: r)
def frcHB (l : List (Nat × Blk)) (K : List (Nat × Blk) → Prop) : Prop := match l with
  | [] => K []
  | (k, b) :: r => frcN k fun k => frcB b fun b => frcHB r fun r => K ((k, b) :: r)
theorem frcTE_eq (l : List (Nat × EV)) (K : List (Nat × EV) → Prop) : frcTE l K = K l := by
  induction l generalizing K with
  | nil => rfl
  | cons n r ih => obtain ⟨k, v⟩ := n; simp only [frcTE, frcE_eq, ih]
theorem frcHB_eq (l : List (Nat × Blk)) (K : List (Nat × Blk) → Prop) : frcHB l K = K l := by
  induction l generalizing K with
  | nil => rfl
  | cons n r ih => obtain ⟨k, v⟩ := n; simp only [frcHB, frcN_eq, frcB_eq, ih]
def reachK : Nat → List (Nat × Blk) → List Nat → (List Nat → Prop) → Prop
  | 0, _, s, K => K s
  | f + 1, H, s, K => frcNs (unionN (idsH s H []) s) fun s => reachK f H s K
theorem reachK_eq (f : Nat) (H : List (Nat × Blk)) (s : List Nat) (K : List Nat → Prop) : reachK f H s K = K (reach f H s) := by
  induction f generalizing s with
  | zero => rfl
  | succ f ih => simp only [reachK, reach, frcNs_eq, ih]
def shK (ks : List Nat) (σ : AS) (tE : List (Nat × EV)) (hE : List (Nat × Blk)) (K : Sh → Prop) : Prop :=
  frcTE (tE ++ keepT ks (keysE tE) σ.tm) fun tm => frcHB (setsH (plainH σ.hp) hE) fun H => frcNs (idsT tm []) fun s => reachK 4 H s fun s => frcHB (gcH s H) fun H => K ⟨tm, H⟩
theorem shK_eq (ks : List Nat) (σ : AS) (tE : List (Nat × EV)) (hE : List (Nat × Blk)) (K : Sh → Prop) : shK ks σ tE hE K = K (shOf ks σ tE hE) := by
  simp only [shK, frcTE_eq, frcHB_eq, frcNs_eq, reachK_eq, shOf]
def hpBel (n : Nat) : List (Nat × Blk) → Bool
  | [] => true
  | (l, _) :: r => Nat.blt l n && hpBel n r
def nxOf (H : List (Nat × Blk)) (n : Nat) : Nat := match hpBel 1000 H with
  | true => 1000
  | false => n
theorem nxOf_ge {H : List (Nat × Blk)} {n : Nat} (h : 100 ≤ n) : 100 ≤ nxOf H n := by unfold nxOf; split <;> omega
def Sh.stN (s : Sh) (nx nt : Nat) : AS := { tm := tmSh s.tm, hp := hpSh s.hp, nx := nxOf s.hp nx, nt := nt }
theorem Ob_iff {p : Prop} : Ob p ↔ p := ⟨fun h => h.out, fun h => ⟨h⟩⟩
structure WLoopN (wp : (Exit → AS → Prop) → AS → Prop) (Q : Exit → AS → Prop) (σ : AS) : Prop where
  out : ∃ (ι : Type) (ks : List Nat) (tE : ι → List (Nat × EV)) (hE : ι → List (Nat × Blk)) (μ : ι → Nat), (∃ i, shK ks σ (tE i) (hE i) fun s => EntN σ s True) ∧
    ∀ i, shK ks σ (tE i) (hE i) fun s => frcN σ.nt fun nt => frcN σ.nx fun nx => frcS (s.stN nx nt) (wp (lpQ (fun σ' => fillN 8 σ' fun σ' => ∃ i', shK ks σ (tE i') (hE i') fun s => EntN σ' s (Ob (μ i' < μ i))) Q))
theorem WLoopN.old {wp : (Exit → AS → Prop) → AS → Prop} {Q : Exit → AS → Prop} {σ : AS} (h : WLoopN wp Q σ) : ∃ (ι : Type) (S : ι → Sh) (μ : ι → Nat), (∃ i, Ent σ (S i)) ∧
    ∀ i, wp (lpQ (fun σ' => fillK 8 σ' fun σ' => ∃ i', Ent σ' (S i') ∧ μ i' < μ i) Q) ((S i).stN σ.nx σ.nt) := by
  obtain ⟨ι, ks, tE, hE, μ, ⟨i0, h0⟩, h1⟩ := h.out
  simp only [shK_eq, EntN_eq, fillN_eq, frcS_eq, frcN_eq, and_true, Ob_iff] at h0 h1
  exact ⟨ι, fun i => shOf ks σ (tE i) (hE i), μ, ⟨i0, h0⟩, h1⟩
/-- Ways meet again: what is known there is told as a shape. -/
structure WCut (wp1 : (AS → Prop) → Prop) (wp2 : AS → Prop) (σ : AS) : Prop where
  out : ∃ (ι : Type) (ks : List Nat) (tE : ι → List (Nat × EV)) (hE : ι → List (Nat × Blk)),
    wp1 (fun σ' => fillN 8 σ' fun σ' => ∃ i, shK ks σ (tE i) (hE i) fun s => EntN σ' s True) ∧ ∀ i, shK ks σ (tE i) (hE i) fun s => frcN σ.nt fun nt => frcN σ.nx fun nx => frcS (s.stN nx nt) wp2

def firstId : Code → Nat
  | .region id _ _ => id
  | .seq x _ => firstId x
  | .block _ c => firstId c
  | .loop c => firstId c
  | _ => 100000
structure Br (b : Bool) (p q : Prop) : Prop where
  t : b = true → p
  f : b = false → q
def wpCN (cu : List Nat) (T : Nat → TI) (Γ : Nat → FSpec) : Code → (Exit → AS → Prop) → AS → Prop
  | .skip, Q, σ => Q .normal σ
  | .label _, Q, σ => Q .normal σ
  | .region _ ops d, Q, σ => match d with
    | false => fillN 8 σ fun σ => wpSeqN T Γ ops.toList ops.toList σ.nx σ (Q .normal)
    | true => fillN 8 σ fun σ => wpDrN T Γ ops (Q .normal) σ
  | .seq x y, Q, σ => match hasN cu (firstId y) with
    | false => wpCN cu T Γ x (lpQ (wpCN cu T Γ y Q) Q) σ
    | true => fillN 8 σ fun σ => WCut (fun K => wpCN cu T Γ x (lpQ K Q) σ) (wpCN cu T Γ y Q) σ
  | .cond c x y, Q, σ => match opOk c, opE σ none c with
    | true, .c (.nc (.f (.bool b))) => Br b (wpCN cu T Γ x Q σ) (wpCN cu T Γ y Q σ)
    | _, _ => False
  | .block id c, Q, σ => wpCN cu T Γ c (inBlk id Q) σ
  | .loop c, Q, σ => fillN 8 σ fun σ => WLoopN (wpCN cu T Γ c) Q σ
  | .exit id, Q, σ => Q (.exit id) σ
  | .ret, Q, σ => Q .ret σ
  | _, _, _ => False

theorem wpCN_sound {cu : List Nat} {P : Program} {T : Nat → TI} {Γ : Nat → FSpec} (hT : TOk P T) (hΓ : ΓOk P Γ) (hm : P.follows .mixedOrders = true) : ∀ (c : Code) (Q : Exit → AS → Prop) (σ : AS), wpCN cu T Γ c Q σ → 100 ≤ σ.nx →
    ∀ a w β ω, Sat σ a w β ω → c.wp P (Post Q σ.nt w β ω) a w := by
  have hDR := wpDrN_ok hT hΓ hm
  intro c
  induction c with
  | skip => intro Q σ h hn a w β ω hs; exact wp_skip ⟨σ, β, ω, h, ⟨hn, rfl⟩, hs, Ext.refl, fun _ _ => rfl⟩
  | label l => intro Q σ h hn a w β ω hs; exact wp_label ⟨σ, β, ω, h, ⟨hn, rfl⟩, hs, Ext.refl, fun _ _ => rfl⟩
  | exit id => intro Q σ h hn a w β ω hs; exact wp_exit ⟨σ, β, ω, h, ⟨hn, rfl⟩, hs, Ext.refl, fun _ _ => rfl⟩
  | ret => intro Q σ h hn a w β ω hs; exact wp_ret ⟨σ, β, ω, h, ⟨hn, rfl⟩, hs, Ext.refl, fun _ _ => rfl⟩
  | region id ops d =>
    intro Q σ h hn a w β ω hs
    cases d with
    | false =>
      simp only [wpCN, fillN_eq, wpSeqN_eq] at h
      obtain ⟨σ', ω', h1, h2, h3, h4, h5⟩ := fillK_sound 8 hs h
      refine wp_mono (wp_region (Q := Post Q σ.nt w β ω') ?_) (fun e a' w' hp => hp.trans h5 fun _ _ => rfl)
      have := seq_sound hT hΓ ops.toList 0 σ'.nx (by simp) (by omega) h4 h1
      rw [h3] at this
      rw [List.range_eq_range']
      simpa using this
    | true =>
      simp only [wpCN, fillN_eq] at h
      obtain ⟨σ', ω', h1, h2, h3, h4, h5⟩ := fillK_sound 8 hs h
      exact wp_mono (hDR id ops Q σ' h1 (by omega) a w β ω' h4) (fun e a' w' hp => by rw [h3] at hp; exact hp.trans h5 fun _ _ => rfl)
  | seq x y ihx ihy =>
    intro Q σ h hn a w β ω hs
    simp only [wpCN] at h
    split at h
    · refine wp_seq (wp_mono (ihx _ _ h hn a w β ω hs) fun e a' w' hp => ?_)
      obtain ⟨σ', β', ω', q, n, s, x, b⟩ := hp
      cases e with
      | normal => exact wp_mono (ihy _ _ q n.1 a' w' β' ω' s) (fun e a2 w2 hp => by rw [n.2] at hp; exact hp.trans x b)
      | _ => exact ⟨σ', β', ω', q, n, s, x, b⟩
    · simp only [fillN_eq] at h
      obtain ⟨σ0, ω0, h1, h2, h3, h4, h5⟩ := fillK_sound 8 hs h
      obtain ⟨ι, ks, tE, hE, k2, k1⟩ := h1.out
      simp only [shK_eq, EntN_eq, fillN_eq, frcS_eq, frcN_eq, and_true] at k1 k2
      refine wp_seq (wp_mono (ihx _ _ k2 (by omega) a w β ω0 h4) fun e a' w' hp => ?_)
      obtain ⟨σ', β', ω', q, n, s, x, b⟩ := hp
      cases e with
      | normal =>
        simp only [lpQ] at q
        obtain ⟨σ3, ω3, ⟨i, he⟩, q2, q3, q4, q5⟩ := fillK_sound 8 s q
        obtain ⟨β4, ω4, hs4, hx4, hb4⟩ := Ent_sound q4 he
        have hnt : σ3.nt = σ0.nt := by rw [q3]; exact n.2
        rw [hnt] at hs4
        refine wp_mono (ihy _ _ (k1 i) (nxOf_ge (by omega)) a' w' β4 ω4 hs4.nx) fun e a2 w2 hp => ?_
        have hp : Post Q σ0.nt w' β4 ω4 e a2 w2 := hp
        rw [h3] at hp
        exact ((hp.trans hx4 hb4).trans (x.trans q5) b).trans h5 fun _ _ => rfl
      | _ => exact (Post.trans h5 (fun _ _ => rfl) ⟨σ', β', ω', q, ⟨n.1, n.2.trans h3⟩, s, x, b⟩)
  | cond c x y ihx ihy =>
    intro Q σ h hn a w β ω hs
    simp only [wpCN] at h
    split at h
    · rename_i b hc hb
      have hv := opE_rep hs (g := none) trivial hc
      rw [hb] at hv
      have hv := bool_rep hv
      refine wp_cond hv ?_
      cases b with
      | true => exact ihx _ _ (h.t rfl) hn a w β ω hs
      | false => exact ihy _ _ (h.f rfl) hn a w β ω hs
    · exact h.elim
  | block id c ih =>
    intro Q σ h hn a w β ω hs
    refine wp_block (wp_mono (ih _ _ h hn a w β ω hs) fun e a' w' hp => ?_)
    obtain ⟨σ', β', ω', q, n, s, x, b⟩ := hp
    cases e with
    | exit id' =>
      simp only [Exit.inBlock]
      simp only [inBlk] at q
      split at q
      · rename_i hb
        rw [if_pos (Nat.eq_of_beq_eq_true hb)]
        exact ⟨σ', β', ω', q, n, s, x, b⟩
      · rename_i hb
        rw [if_neg (Nat.ne_of_beq_eq_false hb)]
        exact ⟨σ', β', ω', q, n, s, x, b⟩
    | _ => exact ⟨σ', β', ω', q, n, s, x, b⟩
  | loop c ih =>
    intro Q σ h hn a w β ω hs
    simp only [wpCN, fillN_eq] at h
    obtain ⟨σ0, ω0, h1, h2, h3, h4, h5⟩ := fillK_sound 8 hs h
    obtain ⟨ι, S, μ, ⟨i0, hi0⟩, hround⟩ := h1.old
    obtain ⟨β1, ω1, hs1, hx1, hb1⟩ := Ent_sound h4 hi0
    let I : Nat → Act → World → Prop := fun k a' w' => ∃ i β' ω', μ i = k ∧ Sat ((S i).st σ0.nt) a' w' β' ω' ∧ Ext w ω w' ω' ∧ ∀ l, l < 100 → β' l = β l
    refine wp_loop (fun a' w' => ∃ k, I k a' w') (fun a' w' => leastN fun k => I k a' w') ⟨μ i0, i0, β1, ω1, rfl, hs1, h5.trans hx1, hb1⟩ fun a' w' hI => ?_
    obtain ⟨hl, hle⟩ := leastN_spec hI
    obtain ⟨i, β', ω', hμ, hs', hx', hb'⟩ := hl
    refine wp_mono (ih _ _ (hround i) (nxOf_ge (by omega)) a' w' β' ω' hs'.nx) fun e a2 w2 hp => ?_
    obtain ⟨σ2, β2, ω2, q, n, s, x, b⟩ := hp
    cases e with
    | normal =>
      simp only [lpQ] at q
      obtain ⟨σ3, ω3, ⟨i', he, hlt⟩, k2, k3, k4, k5⟩ := fillK_sound 8 s q
      obtain ⟨β4, ω4, hs4, hx4, hb4⟩ := Ent_sound k4 he
      have hnt : σ3.nt = σ0.nt := by rw [k3]; exact n.2
      rw [hnt] at hs4
      have hI' : I (μ i') a2 w2 := ⟨i', β4, ω4, rfl, hs4, ((hx'.trans x).trans k5).trans hx4, fun l hl => ((hb4 l hl).trans (b l hl)).trans (hb' l hl)⟩
      refine ⟨⟨_, hI'⟩, ?_⟩
      have := (leastN_spec (p := fun k => I k a2 w2) ⟨_, hI'⟩).2 _ hI'
      exact Nat.lt_of_le_of_lt this (by rw [← hμ]; exact hlt)
    | _ => exact Post.trans hx' hb' ⟨σ2, β2, ω2, q, ⟨n.1, n.2.trans h3⟩, s, x, b⟩
  | _ => intro Q σ h; exact h.elim

/-! ### Functions -/
def RetN (T : Nat → TI) (rs : List ResultVar) (S : FSpec) (d : S.D) (σ : AS) : Prop :=
  fillN 8 σ fun σ => match resEs T σ rs with
    | some xs => match retPs xs (S.res d) with
      | some ps => MtN σ ps (S.hout d) True
      | none => False
    | none => False
theorem RetN_eq (T : Nat → TI) (rs : List ResultVar) (S : FSpec) (d : S.D) (σ : AS) : RetN T rs S d σ = Ret T rs S d σ := by
  unfold RetN Ret
  simp only [fillN_eq, MtN_eq, and_true]
  rfl
def retQN (T : Nat → TI) (rs : List ResultVar) (S : FSpec) (d : S.D) : Exit → AS → Prop
  | .normal, σ => RetN T rs S d σ
  | .ret, σ => RetN T rs S d σ
  | _, _ => False
theorem retQN_eq (T : Nat → TI) (rs : List ResultVar) (S : FSpec) (d : S.D) : retQN T rs S d = retQ T rs S d := by
  funext e σ
  cases e <;> first | rfl | exact RetN_eq _ _ _ _ _
theorem FSpec.okN (cu : List Nat) {P : Program} {T : Nat → TI} {L : List (Nat × FSpec)} (hT : TOk P T) (hm : P.follows .mixedOrders = true) (hΓ : ΓOk P (lkG L)) {f : Nat} {fn : Func} {c : Code} {S : FSpec} (hf : P.funcs[f]? = some fn) (hb : fn.body = some c)
    (hle : ∀ d, Nat.ble (S.args d).length fn.ntmps = true)
    (h : ∀ d, S.pre d → evsFacts (S.args d) → (∀ i B, lkH (S.hin d) i = some B → B.facts) → frcS (startS S d fn.ntmps) (wpCN cu T (lkG L) c (retQN T fn.results.toList S d))) : S.Ok P f := by
  refine FSpec.of_wp hT hf hb hle fun d hpre hfa hfb a w β ω hs => ?_
  have h := h d hpre hfa hfb
  rw [frcS_eq, retQN_eq] at h
  exact wpCN_sound hT hΓ hm c _ _ h (by show (100 : Nat) ≤ 200; omega) a w β ω hs
end Go.Ice
end

section
set_option linter.unusedVariables false
set_option linter.unusedSimpArgs false
namespace Go.Ice
/-! ### Small things for leaves -/
theorem i64_of {n : Int} (h1 : -9223372036854775808 ≤ n) (h2 : n ≤ 9223372036854775807) : inK .i64 n := by
  simp only [inK, IntKind.min, IntKind.max, IntKind.signed, IntKind.bits]
  exact ⟨by simpa using h1, by simpa using h2⟩
/-- One element more behind those that are as told. -/
theorem app_one {n sz : Nat} {g h : Nat → Nat → NC} (e : ∀ j, j < sz → (h 0 j).Eqv (g n j)) : ∀ i, i < n + 1 → ∀ j, j < sz → (appA n g h i j).Eqv (g i j) := by
  intro i hi j hj
  unfold appA
  cases hb : Nat.blt i n with
  | true => exact NC.Eqv.refl _
  | false =>
    have hb : ¬ i < n := by intro h; have : Nat.blt i n = true := by simpa using h
                            rw [hb] at this; cases this
    have : i = n := by omega
    subst this
    rw [Nat.sub_self]
    exact e j hj
theorem i64_in {n : Int} (h : inK .i64 n) : -9223372036854775808 ≤ n ∧ n ≤ 9223372036854775807 := by
  simp only [inK, IntKind.min, IntKind.max, IntKind.signed, IntKind.bits] at h
  simpa using h
theorem i64_facts {n : Int} (h : (Cell.int .i64 n).facts) : -9223372036854775808 ≤ n ∧ n ≤ 9223372036854775807 := i64_in h
/-- One cell of a row is another one. -/
theorem upd_set {n sz i0 j0 : Nat} {g g' : Nat → Nat → NC} {y : NC} (h1 : y.Eqv (g' i0 j0)) (h2 : ∀ i, i < n → ∀ j, j < sz → ¬ (i = i0 ∧ j = j0) → (g i j).Eqv (g' i j)) :
    ∀ i, i < n → ∀ j, j < sz → (updA g i0 j0 [y] i j).Eqv (g' i j) := by
  intro i hi j hj
  by_cases h : i = i0 ∧ j = j0
  · obtain ⟨rfl, rfl⟩ := h
    rw [updA_hit]
    exact h1
  · rw [updA_miss h]
    exact h2 i hi j hj h
theorem appA_ge' {n : Nat} {g h : Nat → Nat → NC} {i j : Nat} (hi : n ≤ i) : appA n g h i j = h (i - n) j := by
  have : Nat.blt i n = false := by
    cases hb : Nat.blt i n with
    | false => rfl
    | true => have : i < n := by simpa using hb
              omega
  simp [appA, this]
/-- Rows of one list behind those of another one. -/
theorem app_rows {α : Type} {f : α → Nat → NC} {d : α} {l r : List α} {m sz : Nat} {h : Nat → Nat → NC} (hm : m = r.length) (e : ∀ i, i < r.length → ∀ j, j < sz → (h i j).Eqv (f (r.getD i d) j)) :
    ∀ i, i < l.length + m → ∀ j, j < sz → (appA l.length (fun i j => f (l.getD i d) j) h i j).Eqv (f ((l ++ r).getD i d) j) := by
  subst hm
  intro i hi j hj
  by_cases hl : i < l.length
  · rw [appA_lt hl]
    have : (l ++ r).getD i d = l.getD i d := by simp [List.getD_eq_getElem?_getD, List.getElem?_append_left hl]
    rw [this]
    exact NC.Eqv.refl _
  · rw [appA_ge' (by omega)]
    have : (l ++ r).getD i d = r.getD (i - l.length) d := by simp [List.getD_eq_getElem?_getD, List.getElem?_append_right (by omega : l.length ≤ i)]
    rw [this]
    exact e _ (by omega) j hj
end Go.Ice
end

section
set_option linter.unusedVariables false
set_option linter.unusedSimpArgs false
namespace Go.Ice
open Go.ChangeShapes Go.WideShapes Go.ChangeAt Go.RowKit

/-! ### What comes in, as values of ours -/
def allFr : Nat → Prop := fun _ => True
/-- What is read at type t is the cells f of some a. -/
structure Opens (P : Program) (t : TypeId) (n : Nat) (α : Type) (f : α → Nat → FC) : Prop where
  size : P.cellsOf t = n
  pos : 0 < n
  at_ : ∀ (H : Type) (enc : TypeId × Value → H) (w : World) (sp : Nat → Bool) (held : Bool) (fuel : Nat) (cs : List Value) (d : DataW H) (ps : List MemPlace),
    DataW.trod enc P w 0 sp held fuel t cs = some (d, ps) → (∀ x ∈ d.weights P t, x ≤ reachBytes) →
    ∃ a : α, cs.length = n ∧ ∀ j, j < n → ∃ u, cs[j]? = some u ∧ (f a j).Rep w allFr u
section
variable {P : Program}
theorem opens_int {t : TypeId} {k : IntKind} (ht : P.underlying t = some (.int k)) (hs : P.cellsOf t = 1) : Opens P t 1 Int (fun n _ => .int k n) := by
  refine ⟨hs, by omega, fun H enc w sp held fuel cs d ps h _ => ?_⟩
  obtain ⟨n, rfl, _, hw⟩ := DataW.trod_int ht h
  refine ⟨n, rfl, fun j hj => ?_⟩
  have : j = 0 := by omega
  subst this
  exact ⟨_, rfl, rfl, by simpa [Lit.wf, inK] using hw⟩
theorem opens_bool {t : TypeId} (ht : P.underlying t = some .bool) (hs : P.cellsOf t = 1) : Opens P t 1 Bool (fun b _ => .bool b) := by
  refine ⟨hs, by omega, fun H enc w sp held fuel cs d ps h _ => ?_⟩
  obtain ⟨b, rfl, _⟩ := DataW.trod_bool ht h
  refine ⟨b, rfl, fun j hj => ?_⟩
  have : j = 0 := by omega
  subst this
  exact ⟨_, rfl, rfl⟩
theorem opens_str {t : TypeId} (ht : P.underlying t = some .string) (hs : P.cellsOf t = 1) : Opens P t 1 (List UInt8) (fun s _ => .str s) := by
  refine ⟨hs, by omega, fun H enc w sp held fuel cs d ps h hw => ?_⟩
  obtain ⟨s, rfl, e, hl⟩ := DataW.trod_string ht h
  refine ⟨s.data.toList, rfl, fun j hj => ?_⟩
  have : j = 0 := by omega
  subst this
  injection e with e
  subst e
  have := hw s.data.toList.length (by unfold DataW.weights; exact .head _)
  exact ⟨_, rfl, by simp [strV], by have e : reachBytes = 140737488351232 := rfl; have e2 : big47 = 140737488355328 := rfl; omega⟩
theorem opens_iso {t : TypeId} {n : Nat} {α β : Type} {f : α → Nat → FC} (h : Opens P t n α f) (g : α → β) (f' : β → Nat → FC) (e : ∀ a j, j < n → f' (g a) j = f a j) : Opens P t n β f' := by
  refine ⟨h.size, h.pos, fun H enc w sp held fuel cs d ps ht hw => ?_⟩
  obtain ⟨a, h1, h2⟩ := h.at_ H enc w sp held fuel cs d ps ht hw
  refine ⟨g a, h1, fun j hj => ?_⟩
  rw [e a j hj]
  exact h2 j hj
theorem mem_weightsAll {H : Type} {e : TypeId} {x : Nat} : ∀ {ds : List (DataW H)} {d : DataW H}, d ∈ ds → x ∈ d.weights P e → x ∈ DataW.weightsAll P e ds
  | d' :: r, d, hm, hx => by
    unfold DataW.weightsAll
    rw [List.mem_append]
    cases hm with
    | head => exact .inl hx
    | tail _ hm => exact .inr (mem_weightsAll hm hx)
theorem mem_weightsEach {H : Type} {x : Nat} : ∀ {ts : List TypeId} {ds : List (DataW H)} {k : Nat} {t : TypeId} {d : DataW H}, ts[k]? = some t → ds[k]? = some d → x ∈ d.weights P t → x ∈ DataW.weightsEach P ts ds
  | t' :: ts, d' :: ds, 0, t, d, h1, h2, hx => by
    simp only [List.getElem?_cons_zero, Option.some.injEq] at h1 h2
    subst h1 h2
    unfold DataW.weightsEach
    exact List.mem_append.2 (.inl hx)
  | t' :: ts, d' :: ds, k + 1, t, d, h1, h2, hx => by
    unfold DataW.weightsEach
    exact List.mem_append.2 (.inr (mem_weightsEach (by simpa using h1) (by simpa using h2) hx))
  | [], _, k, t, d, h1, _, _ => by simp at h1
  | _ :: _, [], k, t, d, _, h2, _ => by simp at h2
theorem cells?_get {w : World} {a : Addr} {n : Nat} {cs : List Value} (h : w.cells? 0 a n = some cs) : cs.length = n ∧ ∀ j, j < n → w.cell? (a.add j) = cs[j]? := by
  obtain ⟨_, h1, h2⟩ := World.cells?_some h
  exact ⟨h1, h2⟩
theorem opens_slice {t e : TypeId} {n : Nat} {α : Type} {f : α → Nat → FC} (ht : P.underlying t = some (.slice e)) (hs : P.cellsOf t = 1) (he : Opens P e n α f) {bw : Nat} (hbw : P.bytesOf e = bw) (hbp : 0 < bw) (d0 : α) :
    Opens P t 1 (List α) (fun l _ => .sl n bw l.length (fun i j => f (l.getD i d0) j)) := by
  have e47 : big47 = 140737488355328 := rfl
  have er : reachBytes = 140737488351232 := rfl
  refine ⟨hs, by omega, fun H enc w sp held fuel cs d ps h hw => ?_⟩
  rcases DataW.trod_slice ht h with ⟨rfl, _⟩ | ⟨a, len, cap, elems, rest, m, _, rfl, hx, _, hl, hc, hlen, hel, _, _⟩
  · refine ⟨[], rfl, fun j hj => ?_⟩
    have : j = 0 := by omega
    subst this
    exact ⟨_, rfl, none, 0, rfl, Nat.le_refl _, by simp, by simp, he.pos, fun h => absurd h (by simp)⟩
  · injection hx with hd hp
    subst hd
    have hwt : (elems.length + rest.length) * bw ≤ reachBytes := by
      refine hw _ ?_
      unfold DataW.weights
      rw [ht]
      simp only [List.length_map, hbw]
      exact .head _
    have each : ∀ i, ∃ b : α, i < len → ∀ j, j < n → ∃ u, w.cell? (a.add (i * n + j)) = some u ∧ (f b j).Rep w allFr u := fun i => by
      by_cases hi : i < len
      · have h1 := hel i hi
        rw [he.size] at h1
        have hy : elems[i]? = some elems[i] := List.getElem?_eq_getElem (by omega)
        rw [hy, Option.bind_eq_some_iff] at h1
        obtain ⟨cs', hcs, htr⟩ := h1
        obtain ⟨b, hb1, hb2⟩ := he.at_ H enc w sp held m cs' _ _ htr (fun x hx => by
          refine hw x ?_
          unfold DataW.weights
          rw [ht]
          refine .tail _ (List.mem_append.2 (.inl (mem_weightsAll (List.mem_map.2 ⟨_, List.mem_of_getElem? hy, rfl⟩) hx)))) 
        refine ⟨b, fun _ j hj => ?_⟩
        obtain ⟨u, hu, hr⟩ := hb2 j hj
        obtain ⟨_, hg⟩ := cells?_get hcs
        have hcell := hg j hj
        rw [hu] at hcell
        refine ⟨u, ?_, hr⟩
        by_cases hz : i * n = 0
        · rw [hz, Nat.zero_add]
          rw [hz] at hcell
          simpa [Addr.add] using hcell
        · have hspot : (a.add (i * n)).spot = none := by unfold Addr.add; rw [if_neg hz]
          by_cases hj0 : j = 0
          · subst hj0
            rw [Nat.add_zero]
            simpa [Addr.add] using hcell
          · have : (a.add (i * n)).add j = a.add (i * n + j) := by
              unfold Addr.add
              rw [if_neg hj0, if_neg hz, if_neg (by omega)]
              simp [Nat.add_assoc]
            rw [← this]
            exact hcell
      · exact ⟨d0, fun h => absurd h hi⟩
    let g : Nat → α := fun i => Classical.choose (each i)
    have hg : ∀ i, i < len → ∀ j, j < n → ∃ u, w.cell? (a.add (i * n + j)) = some u ∧ (f (g i) j).Rep w allFr u := fun i => Classical.choose_spec (each i)
    have hlg : ((List.range len).map g).length = len := by simp
    refine ⟨(List.range len).map g, rfl, fun j hj => ?_⟩
    have : j = 0 := by omega
    subst this
    have hb : len ≤ len * bw := Nat.le_mul_of_pos_right _ hbp
    have hb2 : len * bw ≤ (elems.length + rest.length) * bw := Nat.mul_le_mul_right _ (by omega)
    refine ⟨_, rfl, some a, cap, by rw [hlg], by rw [hlg]; exact hl, by rw [hlg]; omega, by rw [hlg]; omega, he.pos, fun h0 => ?_⟩
    rw [hlg] at h0
    obtain ⟨u0, hu0, _⟩ := hg 0 h0 0 he.pos
    have hsp : a.spot = none := by
      have := World.cell?_spot hu0
      simpa [Addr.add] using this
    refine ⟨a, rfl, hsp, trivial, fun i hi j hj => ?_⟩
    rw [hlg] at hi
    have : ((List.range len).map g).getD i d0 = g i := by simp [List.getD_eq_getElem?_getD, hi]
    show ∃ u, w.cell? (a.add (i * n + j)) = some u ∧ (f (((List.range len).map g).getD i d0) j).Rep w allFr u
    rw [this]
    exact hg i hi j hj
structure Fld (P : Program) where
  off : Nat
  t : TypeId
  n : Nat
  α : Type
  f : α → Nat → FC
  h : Opens P t n α f
theorem trod_fields {t : TypeId} {fs : Array Field} (ht : P.underlying t = some (.struct fs)) (L : List (Fld P)) (hL : fs.toList.map (fun f => (f.offset, f.type)) = L.map (fun x => (x.off, x.t)))
    {H : Type} {enc : TypeId × Value → H} {w : World} {sp : Nat → Bool} {held : Bool} {fuel : Nat} {cs : List Value} {d : DataW H} {ps : List MemPlace}
    (h : DataW.trod enc P w 0 sp held fuel t cs = some (d, ps)) (hw : ∀ x ∈ d.weights P t, x ≤ reachBytes) :
    cs.length = P.cellsOf t ∧ ∀ (k : Nat) (x : Fld P), L[k]? = some x → ∃ a : x.α, ∀ j, j < x.n → ∃ u, cs[x.off + j]? = some u ∧ (x.f a j).Rep w allFr u := by
  obtain ⟨xs, n, _, hx, hl, hxl, hf⟩ := DataW.trod_struct ht h
  injection hx with hd hp
  subst hd
  refine ⟨hl, fun k x hk => ?_⟩
  have hkl : k < L.length := (List.getElem?_eq_some_iff.1 hk).1
  have e1 : (fs.toList.map (fun f => (f.offset, f.type)))[k]? = some (x.off, x.t) := by rw [hL, List.getElem?_map, hk]; rfl
  rw [List.getElem?_map] at e1
  cases hfk : fs.toList[k]? with
  | none => rw [hfk] at e1; cases e1
  | some fd =>
    rw [hfk] at e1
    simp only [Option.map_some, Option.some.injEq, Prod.mk.injEq] at e1
    obtain ⟨e1, e2⟩ := e1
    have hfk' : fs[k]? = some fd := by simpa using hfk
    have hkx : k < xs.length := by rw [hxl]; exact (Array.getElem?_eq_some_iff.1 hfk').1
    have htr := hf k fd hfk'
    rw [List.getElem?_eq_getElem hkx, e1, e2, x.h.size] at htr
    obtain ⟨a, h1, h2⟩ := x.h.at_ H enc w sp held n _ _ _ htr (fun y hy => hw y (by
      unfold DataW.weights
      rw [ht]
      refine mem_weightsEach (k := k) (t := x.t) (d := (xs[k]).1) ?_ ?_ hy
      · rw [List.getElem?_map, hfk]; simp [e2]
      · rw [List.getElem?_map, List.getElem?_eq_getElem hkx]; rfl))
    refine ⟨a, fun j hj => ?_⟩
    obtain ⟨u, hu, hr⟩ := h2 j hj
    refine ⟨u, ?_, hr⟩
    rw [List.getElem?_take, if_pos hj, List.getElem?_drop] at hu
    exact hu

/-! ### Arguments -/
def ω0 : Nat → Option (List Nat) := fun _ => none
def β0 : Nat → Option Nat := fun _ => none
theorem FC.Rep.free {w : World} {x : FC} {v : Value} (h : x.Rep w allFr v) : x.Rep w (fun b => ω0 b = none) v := FC.Rep.mono (fun _ _ _ => ⟨rfl, rfl⟩) h
/-- An argument of one cell. -/
theorem arg_cell {t : TypeId} {α : Type} {f : α → Nat → FC} (ho : Opens P t 1 α f) {w : World} {r : Reach} {base : Nat} {v : Value} (hv : Value.okWide P w r base t v)
    (hns : (match P.underlying t with | some (.struct _) => false | some (.array _ _) => false | _ => true) = true)
    {H : Type} {enc : TypeId × Value → H} {sp : Nat → Bool} {held : Bool} {d : DataW H} {ps : List MemPlace} (hd : DataW.Trod enc P w 0 sp held t v d ps) (hw : ∀ x ∈ d.weights P t, x ≤ reachBytes) :
    ∃ a : α, (EV.c (.nc (.f (f a 0)))).Rep w β0 ω0 v := by
  obtain ⟨fuel, hd⟩ := hd
  obtain ⟨a, h1, h2⟩ := ho.at_ H enc w sp held fuel _ _ _ hd hw
  obtain ⟨u, hu, hr⟩ := h2 0 (by omega)
  refine ⟨a, trivial, ?_⟩
  have hc : v.cells = #[v] := by
    cases v with
    | agg cs =>
      exfalso
      unfold Value.okWide at hv
      split at hv
      · rename_i e; rw [e] at hns; cases hns
      · rename_i e; rw [e] at hns; cases hns
      · unfold Cell.okWide at hv
        split at hv <;> first | exact hv | (unfold Cell.ok at hv; split at hv <;> simp_all) | simp_all
    | _ => rfl
  rw [hc] at hu
  simp only [List.getElem?_cons_zero, Option.some.injEq] at hu
  subst hu
  exact hr.free
/-- An argument that is a struct. -/
theorem arg_agg {t : TypeId} {n : Nat} {α : Type} {f : α → Nat → FC} (ho : Opens P t n α f) {fs : Array Field} (ht : P.underlying t = some (.struct fs)) {w : World} {r : Reach} {base : Nat} {v : Value} (hv : Value.okWide P w r base t v)
    {H : Type} {enc : TypeId × Value → H} {sp : Nat → Bool} {held : Bool} {d : DataW H} {ps : List MemPlace} (hd : DataW.Trod enc P w 0 sp held t v d ps) (hw : ∀ x ∈ d.weights P t, x ≤ reachBytes)
    (C : α → List Cell) (hC : ∀ a, (C a).length = n ∧ ∀ j c, (C a)[j]? = some c → c = Cell.nc (.f (f a j))) :
    ∃ a : α, (EV.agg (C a)).Rep w β0 ω0 v := by
  obtain ⟨fuel, hd⟩ := hd
  obtain ⟨a, h1, h2⟩ := ho.at_ H enc w sp held fuel _ _ _ hd hw
  unfold Value.okWide at hv
  rw [ht] at hv
  obtain ⟨cs, rfl, _, _⟩ := hv
  have h1 : cs.toList.length = n := h1
  obtain ⟨c1, c2⟩ := hC a
  refine ⟨a, cs, rfl, ⟨by rw [c1, ← h1, Array.length_toList], fun j c hj => ?_⟩, fun c hc => ?_⟩
  · have hlt : j < n := by rw [← c1]; exact (List.getElem?_eq_some_iff.1 hj).1
    obtain ⟨u, hu, hr⟩ := h2 j hlt
    have hu : cs.toList[j]? = some u := hu
    refine ⟨u, by simpa using hu, ?_⟩
    rw [c2 j c hj]
    exact hr.free
  · obtain ⟨j, hj⟩ := List.getElem?_of_mem hc
    rw [c2 j c hj]
    trivial
theorem FIn.none {w : World} : FIn [] w β0 ω0 := ⟨(fun i B h => nomatch h), (fun b i p e => nomatch e), (fun b p e => nomatch e)⟩
theorem TrodAll_carry {H : Type} {enc : TypeId × Value → H} {w w' : World} {base : Nat} {sp : Nat → Bool} {held : Bool} : ∀ {ts : List TypeId} {vs : List Value} {ds : List (DataW H)} {ps : List MemPlace}, DataW.TrodAll enc P w base sp held ts vs ds ps → (∀ p ∈ ps, w.sameAt w' p) → DataW.TrodAll enc P w' base sp held ts vs ds ps
  | [], [], [], _, h, _ => h
  | _ :: _, _ :: _, _ :: _, _, ⟨p, q, ⟨n, h1⟩, h2, e⟩, hs => ⟨p, q, ⟨n, DataW.trod_carry n _ _ _ h1 (fun x hx => hs x (by rw [e]; exact List.mem_append_left _ hx))⟩, TrodAll_carry h2 (fun x hx => hs x (by rw [e]; exact List.mem_append_right _ hx)), e⟩

/-! ### The row -/
/-- A law's row: what the call leaves is as it was, and it says true. -/
theorem law_post {T : TypeId → Prop} {H : Type} {enc : TypeId × Value → H} {f : Func} {s : ChangeSpec} {apart fresh handsOn : Bool} {W W' : World} {args : Array Value} {ds gs : List (DataW H)} {before : List MemPlace} {t : TypeId}
    (hW : DataW.Whole enc P f.params.toList s.vars apart W args.toList ds gs before) (hv : s.vars = []) (hrt : f.resultTypes = #[t]) (ht : P.underlying t = some .bool)
    (K : Kids P T) (hzs : ∀ t e, T t → P.underlying t = some (.slice e) → 0 < P.cellsOf e) (hT : ∀ t ∈ f.params.toList, T t)
    (hres : (s.fn H (ds ++ gs)).results = [.lit (.bool true)]) (hargs : (s.fn H (ds ++ gs)).args = ds) (hvs : (s.fn H (ds ++ gs)).vars = [])
    {ω' : Nat → Option (List Nat)} (hx : Ext W ω0 W' ω') : s.post enc P f apart fresh handsOn false W args (.bool true) W' := by
  have hold : ∀ p ∈ before, p.block < W.heap.size := fun p hp => by have := hW.lt p hp; simpa using this
  have same : ∀ b, b < W.heap.size → W'.heap[b]? = W.heap[b]? := fun b hb => (hx.keep b hb (.inl rfl)).1
  obtain ⟨p, q, hA, hV, hpq, hz, hn⟩ := hW
  rw [hv] at hV
  obtain ⟨hgs, hq⟩ := trodVars_none hV
  subst hgs hq
  rw [List.append_nil] at hpq
  subst hpq
  have hsame : ∀ m ∈ before, W.sameAt W' m := fun m hm => by
    have hb := hold m hm
    cases m with
    | cell b off => simp only [World.sameAt, World.cell?, same b hb]
    | map b => exact same b hb
  have hbool : ∀ (b : Nat) (sp : Nat → Bool) (hd : Bool), DataW.TrodAll enc P W' b sp hd f.resultTypes.toList ((Value.bool true).resultList f.resultTypes.size) (s.fn H (ds ++ [])).results [] := fun b sp hd => by
    rw [hrt, hres]
    exact trodAll_cons_mk (shut_bool ht _) trodAll_mk0
  have carry : ∀ (sp : Nat → Bool), (∀ m ∈ before, sp m.block = true) → DataW.TrodAll enc P W' 0 sp true f.params.toList args.toList ds before := fun sp hsp => by
    have h1 : DataW.TrodAll enc P W 0 sp true f.params.toList args.toList ds before := DataW.TrodAll.respare K hzs hT hA hsp
    exact TrodAll_carry h1 hsame
  refine ⟨ds, [], before, [], before, [], ⟨before, [], hA, by rw [hv]; exact hV, by simp, hz, hn⟩, hbool _ _ _, by rw [hargs]; exact carry _ (fun m hm => by simpa using hold m hm), by rw [hv, hvs]; rfl, ⟨hx.os, hx.output, fun i hi => ?_⟩, fun h => by cases h⟩
  rw [same i hi]
  cases W.heap[i]? with
  | none => rfl
  | some o => cases o with
    | cells c t fr => exact ⟨rfl, rfl, rfl, fun _ _ => rfl⟩
    | map es cl => exact .inr ⟨rfl, rfl⟩
    | _ => rfl
end
end Go.Ice
end
