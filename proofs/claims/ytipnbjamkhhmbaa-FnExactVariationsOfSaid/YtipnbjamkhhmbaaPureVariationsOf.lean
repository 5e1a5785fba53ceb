/- Plain law: the reference's and the program's VariationsOf come to the same, over numbers and lists alone. -/
import Derived.Test.YtipnbjamkhhmbaaLVariationsOf
namespace Go.Proofs.Ytipnbjamkhhmbaa.QVariationsOf
open Go.RowKit Go.Proofs.YtipnbjamkhhmbaaW.PrintWords Go.Proofs.YtipnbjamkhhmbaaW.PrintLast Go.Proofs.YtipnbjamkhhmbaaW.PrintMore
set_option linter.unusedVariables false
set_option linter.unusedSimpArgs false
theorem Ev_if {α : Type} {c : Prop} [Decidable c] {g f : Nat → Option α} {r : α} (hp : c → Ev g r) (hn : ¬ c → Ev f r) : Ev (fun k => if c then g k else f k) r := by
  by_cases h : c
  · simp only [if_pos h]; exact hp h
  · simp only [if_neg h]; exact hn h
theorem Ev_bindS {α β : Type} {a : Option α} {x : α} {f : Nat → α → Option β} {r : β} (h : a = some x) (k : Ev (fun n => f n x) r) : Ev (fun n => a.bind (f n)) r := by
  subst h; simpa only [Option.bind_some] using k
theorem Ev_eq {α : Type} {g : Nat → Option α} {r r' : α} (h : Ev g r) (e : r = r') : Ev g r' := e ▸ h
theorem Ev_both {α β : Type} {g : Nat → Option α} {f : Nat → Option β} {r : α} {q : β} (h : Ev g r) (h' : Ev f q) : ∃ ks ki, g ks = some r ∧ f ki = some q := by
  obtain ⟨a, ha⟩ := h.rounds
  obtain ⟨b, hb⟩ := h'.rounds
  exact ⟨a, b, ha, hb⟩
theorem l1In_eq (a b c : Int) : spec_l1In.f a b c = some (decide (b ≤ a ∧ a ≤ c)) := by
  unfold spec_l1In.f; by_cases h : b ≤ a <;> simp [h]
theorem inside_eq (a b c : Int) : impl_inside.f a b c = some (decide (b ≤ a ∧ a ≤ c)) := by
  unfold impl_inside.f; by_cases h : b ≤ a <;> simp [h]
theorem rd_getElem (l : List Int) (i : Nat) (h : i < l.length) : rd l (i : Int) = l[i] := by simp [rd, h]
theorem wrap_next (i : Nat) (h : i < 9223372036854775807) : wrap64 ((i : Int) + 1) = ((i + 1 : Nat) : Int) := by unfold wrap64; omega
theorem all_drop (l : List Int) (p : Int → Bool) (i : Nat) (h : i < l.length) : (l.drop i).all p = (p (rd l (i : Int)) && (l.drop (i + 1)).all p) := by
  rw [List.drop_eq_getElem_cons h, List.all_cons, rd_getElem l i h]
theorem rd_mem (l : List Int) (i : Nat) (h : i < l.length) : rd l (i : Int) ∈ l := by rw [rd_getElem l i h]; exact List.getElem_mem h
theorem drop_rd (l : List Int) (i : Nat) (h : i < l.length) : l.drop i = rd l (i : Int) :: l.drop (i + 1) := by rw [rd_getElem l i h]; exact List.drop_eq_getElem_cons h
theorem l1All_l0 (l : List Int) (lo hi : Int) (hl : l.length ≤ 1000000) (d : Nat) : ∀ (k i : Nat), i ≤ l.length → l.length - i = d → d < k → spec_l1All.l0 k lo hi l (l.length : Int) (i : Int) = some ((l.drop i).all fun x => decide (lo ≤ x ∧ x ≤ hi)) := by
  induction d with
  | zero =>
    intro k i h1 hd hk
    obtain ⟨k, rfl⟩ : ∃ m, k = m + 1 := ⟨k - 1, by omega⟩
    simp only [spec_l1All.l0]; rw [if_neg (by omega), List.drop_eq_nil_of_le (by omega)]; rfl
  | succ d ih =>
    intro k i h1 hd hk
    obtain ⟨k, rfl⟩ : ∃ m, k = m + 1 := ⟨k - 1, by omega⟩
    simp only [spec_l1All.l0]
    rw [if_pos (by omega), if_pos (by omega), if_pos (by omega), l1In_eq, Option.bind_some, wrap_next i (by omega), all_drop l _ i (by omega)]
    by_cases hp : lo ≤ rd l (i : Int) ∧ rd l (i : Int) ≤ hi
    · rw [if_pos (decide_eq_true hp), decide_eq_true hp, ih k (i + 1) (by omega) (by omega) (by omega)]; rfl
    · rw [if_neg (by rw [decide_eq_false hp]; decide), decide_eq_false hp]; rfl
theorem l1All_eq (l : List Int) (lo hi : Int) (hl : l.length ≤ 1000000) (k : Nat) (hk : l.length < k) : spec_l1All.f k l lo hi = some (l.all fun x => decide (lo ≤ x ∧ x ≤ hi)) := by
  unfold spec_l1All.f
  have h := l1All_l0 l lo hi hl l.length k 0 (by omega) (by omega) hk
  simpa using h
def signI (x : Int) : Int := if x < 0 then -1 else if x > 0 then 1 else 0
theorem compare_zero (x : Int) : cmp_Compare_int.f x 0 = some (signI x) := by
  unfold cmp_Compare_int.f cmp_isNaN_int.f signI
  simp only [bne_self_eq_false, Option.bind_some]
  rw [if_neg (by decide), if_neg (by decide)]
  by_cases h : x < 0
  · simp [h]
  · rw [if_neg h, if_neg h]; by_cases h2 : x > 0 <;> simp [h2]
theorem signI_cases (x : Int) : signI x = -1 ∨ signI x = 0 ∨ signI x = 1 := by unfold signI; split <;> (try split) <;> simp
/-- The reference's changes of a list of signs, and the program's of any numbers with these signs. -/
theorem changes_l0 (l s : List Int) (hs : s = l.map signI) (hl : l.length ≤ 1000000) (n : Nat) : ∀ (i : Nat) (last c : Int), i ≤ l.length → l.length - i = n → (last = -1 ∨ last = 0 ∨ last = 1) → 0 ≤ c ∧ c ≤ i →
    ∃ r, Ev (fun k => spec_stChanges.l0 k last c s (s.length : Int) (i : Int)) r ∧ Ev (fun k => impl_changes.l0 k c last l (l.length : Int) (i : Int)) r ∧ 0 ≤ r ∧ r ≤ l.length := by
  have hsl : s.length = l.length := by rw [hs]; simp
  induction n with
  | zero =>
    intro i last c hi hn hla hc
    refine ⟨c, ?_, ?_, hc.1, by omega⟩
    · refine Ev.step (fun k => rfl) ?_
      exact Ev_if (fun h => by omega) (fun _ => Ev.now _)
    · refine Ev.step (fun k => rfl) ?_
      exact Ev_if (fun h => by omega) (fun _ => Ev.now _)
  | succ n ih =>
    intro i last c hi hn hla hc
    have hrd : rd s (i : Int) = signI (rd l (i : Int)) := by
      rw [rd_getElem s i (by omega), rd_getElem l i (by omega)]; simp [hs]
    obtain ⟨q, hq⟩ : ∃ q, signI (rd l (i : Int)) = q := ⟨_, rfl⟩
    have hqc := signI_cases (rd l (i : Int))
    rw [hq] at hrd hqc
    have hspec : ∀ r, Ev (fun k => spec_stChanges.l0 k (if q = 0 then last else q) (if q = 0 then c else if last = 0 then c else if q = last then c else c + 1) s (s.length : Int) ((i + 1 : Nat) : Int)) r → Ev (fun k => spec_stChanges.l0 k last c s (s.length : Int) (i : Int)) r := by
      intro r hr
      refine Ev.step (fun k => rfl) ?_
      simp only [spec_stChanges.l0]
      rw [hrd, wrap_next i (by omega), show wrap64 (c + 1) = c + 1 by unfold wrap64; omega]
      refine Ev_if (fun _ => Ev_if (fun _ => Ev_if (fun _ => ?_) (fun h => by omega)) (fun h => by omega)) (fun h => by omega)
      refine Ev_if (fun h => ?_) (fun h => Ev_if (fun h2 => ?_) (fun h2 => Ev_if (fun h3 => ?_) (fun h3 => ?_)))
      · simpa only [if_pos h] using hr
      · simpa only [if_neg h, if_pos h2] using hr
      · simp only [if_neg h, if_neg h2, if_pos h3] at hr; exact hr
      · simpa only [if_neg h, if_neg h2, if_neg h3] using hr
    have himpl : ∀ r, Ev (fun k => impl_changes.l0 k (if q = 0 then c else if q = -last then c + 1 else c) (if q = 0 then last else q) l (l.length : Int) ((i + 1 : Nat) : Int)) r → Ev (fun k => impl_changes.l0 k c last l (l.length : Int) (i : Int)) r := by
      intro r hr
      refine Ev.step (fun k => rfl) ?_
      simp only [impl_changes.l0, compare_zero, Option.bind_some]
      rw [hq, wrap_next i (by omega), show wrap64 (c + 1) = c + 1 by unfold wrap64; omega, show wrap64 (-last) = -last by unfold wrap64; omega]
      refine Ev_if (fun _ => Ev_if (fun _ => Ev_if (fun _ => ?_) (fun h => by omega)) (fun h => by omega)) (fun h => by omega)
      refine Ev_if (fun h => ?_) (fun h => Ev_if (fun h2 => ?_) (fun h2 => ?_))
      · simpa only [if_pos h] using hr
      · simpa only [if_neg h, if_pos h2] using hr
      · simpa only [if_neg h, if_neg h2] using hr
    have hc2 : (if q = 0 then c else if last = 0 then c else if q = last then c else c + 1) = (if q = 0 then c else if q = -last then c + 1 else c) := by
      rcases hqc with h | h | h <;> rcases hla with h2 | h2 | h2 <;> subst h2 <;> rw [h] <;> rfl
    obtain ⟨r, e1, e2, e3, e4⟩ := ih (i + 1) (if q = 0 then last else q) (if q = 0 then c else if q = -last then c + 1 else c) (by omega) (by omega) (by split <;> assumption) (by split <;> (try split) <;> omega)
    exact ⟨r, hspec r (by rw [hc2]; exact e1), himpl r e2, e3, e4⟩
theorem changes_eq (l s : List Int) (hs : s = l.map signI) (hl : l.length ≤ 1000000) : ∃ r, Ev (fun k => spec_stChanges.f k s) r ∧ Ev (fun k => impl_changes.f k l) r ∧ 0 ≤ r ∧ r ≤ l.length :=
  changes_l0 l s hs hl l.length 0 0 0 (by omega) (by omega) (by omega) ⟨by omega, by omega⟩
theorem cf_var (l : List Int) : slices_ContainsFunc_int_int__impl_VariationsOf_1.f l = some (!(l.all fun x => decide ((-1) ≤ x ∧ x ≤ 1))) := by
  induction l with
  | nil => rfl
  | cons x q ih =>
    simp only [slices_ContainsFunc_int_int__impl_VariationsOf_1.f, impl_VariationsOf_1.f, inside_eq, Option.bind_some, List.all_cons, ih]
    by_cases h : (-1) ≤ x ∧ x ≤ 1
    · rw [decide_eq_true h]; rfl
    · rw [decide_eq_false h]; rfl
theorem Pure_holds : Pure := by
  intro l hl _
  have key : ∃ r1 r2, Ev (fun k => spec_VariationsOf.f k l) (r1, r2) ∧ Ev (fun k => impl_VariationsOf.f k l) (r1, r2) := by
    by_cases h20 : (l.length : Int) > 20
    · exact ⟨0, false, Ev_if (fun _ => Ev.now _) (fun h => absurd h20 h), Ev_if (fun _ => Ev.now _) (fun h => absurd h20 h)⟩
    · have hA : Ev (fun k => spec_l1All.f k l (-1) 1) (l.all fun x => decide ((-1) ≤ x ∧ x ≤ 1)) := ⟨l.length + 1, fun k hk => l1All_eq l _ _ hl k (by omega)⟩
      cases ha : (l.all fun x => decide ((-1 : Int) ≤ x ∧ x ≤ 1)) with
      | false =>
        rw [ha] at hA
        refine ⟨0, false, Ev_if (fun h => absurd h h20) (fun _ => Ev.bind hA (Ev.now _)), Ev_if (fun h => absurd h h20) (fun _ => ?_)⟩
        refine Ev_bindS (cf_var l) ?_
        rw [ha]; exact Ev.now _
      | true =>
        rw [ha] at hA
        simp only [List.all_eq_true, decide_eq_true_eq] at ha
        have hs : l = l.map signI := by
          have : l.map signI = l.map id := List.map_congr_left (fun x hx => by have := ha x hx; unfold signI; simp; split <;> (try split) <;> omega)
          rw [this, List.map_id]
        obtain ⟨r, e1, e2, _⟩ := changes_eq l l hs hl
        refine ⟨r, true, Ev_if (fun h => absurd h h20) (fun _ => Ev.bind hA (Ev.bind e1 (Ev.now _))), Ev_if (fun h => absurd h h20) (fun _ => ?_)⟩
        refine Ev_bindS (cf_var l) ?_
        have ha2 : (l.all fun x => decide ((-1 : Int) ≤ x ∧ x ≤ 1)) = true := by simpa using ha
        rw [ha2]
        exact Ev.bind e2 (Ev.now _)
  obtain ⟨r1, r2, h1, h2⟩ := key
  obtain ⟨ks, ki, h⟩ := Ev_both h1 h2
  exact ⟨ks, ki, r1, r2, h⟩
end Go.Proofs.Ytipnbjamkhhmbaa.QVariationsOf
