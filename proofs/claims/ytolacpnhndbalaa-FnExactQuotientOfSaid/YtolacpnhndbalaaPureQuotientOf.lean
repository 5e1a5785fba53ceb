/- Plain law: the reference's and the program's QuotientOf come to the same, over numbers and lists alone. -/
import Derived.Test.YtolacpnhndbalaaLQuotientOf
namespace Go.Proofs.Ytolacpnhndbalaa.QQuotientOf
open Go.RowKit Go.Proofs.YtolacpnhndbalaaW.PrintWords Go.Proofs.YtolacpnhndbalaaW.PrintLast Go.Proofs.YtolacpnhndbalaaW.PrintMore
set_option linter.unusedVariables false
set_option linter.unusedSimpArgs false
theorem Ev_if {α : Type} {c : Prop} [Decidable c] {g f : Nat → Option α} {r : α} (hp : c → Ev g r) (hn : ¬ c → Ev f r) : Ev (fun k => if c then g k else f k) r := by
  by_cases h : c
  · simp only [if_pos h]; exact hp h
  · simp only [if_neg h]; exact hn h
theorem Ev_bindS {α β : Type} {a : Option α} {x : α} {f : Nat → α → Option β} {r : β} (h : a = some x) (k : Ev (fun n => f n x) r) : Ev (fun n => a.bind (f n)) r := by
  subst h; simpa only [Option.bind_some] using k
theorem Ev_eq {α : Type} {g : Nat → Option α} {r r' : α} (h : Ev g r) (e : r = r') : Ev g r' := e ▸ h
theorem Ev_both {α β : Type} {g : Nat → Option α} {f : Nat → Option β} {r : α} {q : β} (h : Ev g r) (h' : Ev f q) : ∃ ks ki, g ks = some r ∧ f ki = some q := by
  obtain ⟨a, ha⟩ := h.rounds
  obtain ⟨b, hb⟩ := h'.rounds
  exact ⟨a, b, ha, hb⟩
theorem l1In_eq (a b c : Int) : spec_l1In.f a b c = some (decide (b ≤ a ∧ a ≤ c)) := by
  unfold spec_l1In.f; by_cases h : b ≤ a <;> simp [h]
theorem inside_eq (a b c : Int) : impl_inside.f a b c = some (decide (b ≤ a ∧ a ≤ c)) := by
  unfold impl_inside.f; by_cases h : b ≤ a <;> simp [h]
theorem rd_getElem (l : List Int) (i : Nat) (h : i < l.length) : rd l (i : Int) = l[i] := by simp [rd, h]
theorem wrap_next (i : Nat) (h : i < 9223372036854775807) : wrap64 ((i : Int) + 1) = ((i + 1 : Nat) : Int) := by unfold wrap64; omega
theorem all_drop (l : List Int) (p : Int → Bool) (i : Nat) (h : i < l.length) : (l.drop i).all p = (p (rd l (i : Int)) && (l.drop (i + 1)).all p) := by
  rw [List.drop_eq_getElem_cons h, List.all_cons, rd_getElem l i h]
theorem rd_mem (l : List Int) (i : Nat) (h : i < l.length) : rd l (i : Int) ∈ l := by rw [rd_getElem l i h]; exact List.getElem_mem h
theorem drop_rd (l : List Int) (i : Nat) (h : i < l.length) : l.drop i = rd l (i : Int) :: l.drop (i + 1) := by rw [rd_getElem l i h]; exact List.drop_eq_getElem_cons h
theorem wrap_sum (i k : Nat) (h : i + k ≤ 4000000000000) : wrap64 ((i : Int) + (k : Int)) = ((i + k : Nat) : Int) := by unfold wrap64; omega
theorem l1All_l0 (l : List Int) (lo hi : Int) (hl : l.length ≤ 1000000) (d : Nat) : ∀ (k i : Nat), i ≤ l.length → l.length - i = d → d < k → spec_l1All.l0 k lo hi l (l.length : Int) (i : Int) = some ((l.drop i).all fun x => decide (lo ≤ x ∧ x ≤ hi)) := by
  induction d with
  | zero =>
    intro k i h1 hd hk
    obtain ⟨k, rfl⟩ : ∃ m, k = m + 1 := ⟨k - 1, by omega⟩
    simp only [spec_l1All.l0]; rw [if_neg (by omega), List.drop_eq_nil_of_le (by omega)]; rfl
  | succ d ih =>
    intro k i h1 hd hk
    obtain ⟨k, rfl⟩ : ∃ m, k = m + 1 := ⟨k - 1, by omega⟩
    simp only [spec_l1All.l0]
    rw [if_pos (by omega), if_pos (by omega), if_pos (by omega), l1In_eq, Option.bind_some, wrap_next i (by omega), all_drop l _ i (by omega)]
    by_cases hp : lo ≤ rd l (i : Int) ∧ rd l (i : Int) ≤ hi
    · rw [if_pos (decide_eq_true hp), decide_eq_true hp, ih k (i + 1) (by omega) (by omega) (by omega)]; rfl
    · rw [if_neg (by rw [decide_eq_false hp]; decide), decide_eq_false hp]; rfl
theorem l1All_eq (l : List Int) (lo hi : Int) (hl : l.length ≤ 1000000) (k : Nat) (hk : l.length < k) : spec_l1All.f k l lo hi = some (l.all fun x => decide (lo ≤ x ∧ x ≤ hi)) := by
  unfold spec_l1All.f
  have h := l1All_l0 l lo hi hl l.length k 0 (by omega) (by omega) hk
  simpa using h
def smallB (l : List Int) : Bool := l.all fun x => decide ((-1000000) ≤ x ∧ x ≤ 1000000)
def lastB (l : List Int) : Bool := if l.length = 0 then true else (rd l ((l.length : Int) - 1) != 0)
/-- A single polynomial. -/
def goodB (l : List Int) : Bool := decide (l.length ≤ 9) && (smallB l && lastB l)
theorem sgGood_eq (l : List Int) (hl : l.length ≤ 1000000) (k : Nat) (hk : l.length < k) : spec_sgGood.f k l = some (goodB l) := by
  unfold spec_sgGood.f goodB
  by_cases h9 : l.length ≤ 9
  · rw [if_neg (by omega), l1All_eq l _ _ hl k hk, Option.bind_some, decide_eq_true h9, Bool.true_and]
    change (if smallB l = true then _ else _) = _
    cases hs : smallB l with
    | false => rfl
    | true =>
      rw [if_pos rfl, Bool.true_and]
      unfold lastB
      by_cases h0 : l.length = 0
      · rw [if_pos (by omega), if_pos h0]
      · rw [if_neg (by omega), if_neg h0, show wrap64 ((l.length : Int) - 1) = (l.length : Int) - 1 by unfold wrap64; omega, if_pos (by omega), if_pos (by omega)]
  · rw [if_pos (by omega), decide_eq_false h9]; rfl
theorem isSingle_l0 (l : List Int) (hl : l.length ≤ 1000000) (d : Nat) : ∀ (k i : Nat), i ≤ l.length → l.length - i = d → d < k → impl_isSingle.l0 k l l (l.length : Int) (i : Int) = some (((l.drop i).all fun x => decide ((-1000000) ≤ x ∧ x ≤ 1000000)) && (if l.length = 0 then true else decide (l.length ≤ 9) && (rd l ((l.length : Int) - 1) != 0))) := by
  induction d with
  | zero =>
    intro k i h1 hd hk
    obtain ⟨k, rfl⟩ : ∃ m, k = m + 1 := ⟨k - 1, by omega⟩
    simp only [impl_isSingle.l0]; rw [if_neg (by omega), List.drop_eq_nil_of_le (by omega)]
    by_cases h0 : l.length = 0
    · rw [if_pos (by omega), if_pos h0]; rfl
    · rw [if_neg (by omega), if_neg h0]
      by_cases h9 : l.length ≤ 9
      · rw [if_pos (by omega), show wrap64 ((l.length : Int) - 1) = (l.length : Int) - 1 by unfold wrap64; omega, if_pos (by omega), if_pos (by omega), decide_eq_true h9]; rfl
      · rw [if_neg (by omega), decide_eq_false h9]; rfl
  | succ d ih =>
    intro k i h1 hd hk
    obtain ⟨k, rfl⟩ : ∃ m, k = m + 1 := ⟨k - 1, by omega⟩
    simp only [impl_isSingle.l0]
    rw [if_pos (by omega), if_pos (by omega), if_pos (by omega), inside_eq, Option.bind_some, wrap_next i (by omega), all_drop l _ i (by omega)]
    by_cases hp : (-1000000) ≤ rd l (i : Int) ∧ rd l (i : Int) ≤ 1000000
    · rw [if_pos (decide_eq_true hp), decide_eq_true hp, ih k (i + 1) (by omega) (by omega) (by omega)]; rfl
    · rw [if_neg (by rw [decide_eq_false hp]; decide), decide_eq_false hp]; rfl
theorem isSingle_eq (l : List Int) (hl : l.length ≤ 1000000) (k : Nat) (hk : l.length < k) : impl_isSingle.f k l = some (goodB l) := by
  unfold impl_isSingle.f
  have h := isSingle_l0 l hl l.length k 0 (by omega) (by omega) hk
  simp only [List.drop_zero] at h
  rw [show ((0 : Nat) : Int) = 0 from rfl] at h
  rw [h]
  congr 1
  unfold goodB lastB
  change (smallB l && _) = _
  cases smallB l <;> by_cases h0 : l.length = 0 <;> simp [h0]
theorem sgGood_ev (l : List Int) (hl : l.length ≤ 1000000) : Ev (fun k => spec_sgGood.f k l) (goodB l) := ⟨l.length + 1, fun k hk => sgGood_eq l hl k (by omega)⟩
theorem isSingle_ev (l : List Int) (hl : l.length ≤ 1000000) : Ev (fun k => impl_isSingle.f k l) (goodB l) := ⟨l.length + 1, fun k hk => isSingle_eq l hl k (by omega)⟩
theorem good_bound (l : List Int) (h : goodB l = true) : ∀ x ∈ l, (-1000000 : Int) ≤ x ∧ x ≤ 1000000 := by
  unfold goodB smallB at h
  simp only [Bool.and_eq_true, List.all_eq_true, decide_eq_true_eq] at h
  exact h.2.1
theorem good_length (l : List Int) (h : goodB l = true) : l.length ≤ 9 := by
  unfold goodB at h
  simp only [Bool.and_eq_true, decide_eq_true_eq] at h
  exact h.1
theorem good_last (l : List Int) (h : goodB l = true) (h0 : 0 < l.length) : rd l ((l.length : Int) - 1) ≠ 0 := by
  unfold goodB lastB at h
  simp only [Bool.and_eq_true] at h
  have := h.2.2
  rw [if_neg (by omega)] at this
  simpa using this
theorem own_eq (l : List Int) (h : l.length ≤ 1000000) : spec_l1Own.f l = some l := by
  unfold spec_l1Own.f; simp only [Option.bind_some, List.length_nil, List.nil_append]; rw [if_pos (by omega)]
theorem List_snoc (l : List Int) (h : 0 < l.length) : ∃ q a, l = q ++ [a] := by
  rcases List.eq_nil_or_concat l with e | ⟨q, a, e⟩
  · simp [e] at h
  · exact ⟨q, a, by rw [e, List.concat_eq_append]⟩
def trimI (l : List Int) : List Int := (l.reverse.dropWhile (fun x => x == 0)).reverse
theorem trimI_nil : trimI [] = [] := rfl
theorem trimI_zero (q : List Int) : trimI (q ++ [0]) = trimI q := by simp [trimI]
theorem trimI_last (q : List Int) (a : Int) (h : a ≠ 0) : trimI (q ++ [a]) = q ++ [a] := by simp [trimI, h]
theorem trimI_length (l : List Int) : (trimI l).length ≤ l.length := by
  unfold trimI; rw [List.length_reverse]; exact Nat.le_trans (List.dropWhile_sublist _).length_le (by simp)
theorem clone_eq (l : List Int) (h : l.length ≤ 1000000) : slices_Clone_int_int.f l = some l := by
  unfold slices_Clone_int_int.f; rw [if_pos (by omega)]
theorem rd_last (q : List Int) (a : Int) : rd (q ++ [a]) (q.length : Int) = a := by simp [rd]
theorem stripped_eq (n : Nat) : ∀ l : List Int, l.length = n → l.length ≤ 1000000 → Ev (fun k => impl_stripped.f k l) (trimI l) := by
  induction n with
  | zero =>
    intro l hn hl
    obtain rfl := List.eq_nil_of_length_eq_zero hn
    refine Ev.step (fun k => rfl) ?_
    simp only [impl_stripped.f, impl_stripped.l0]
    exact Ev_if (fun h => by simp at h) (fun _ => Ev_bindS (clone_eq [] (by simp)) (Ev.now _))
  | succ n ih =>
    intro l hn hl
    obtain ⟨q, a, rfl⟩ : ∃ q a, l = q ++ [a] := List_snoc l (by omega)
    have hq : q.length = n := by simpa using hn
    have e1 : wrap64 (((q ++ [a]).length : Int) - 1) = (q.length : Int) := by simp only [List.length_append, List.length_singleton] at hl ⊢; unfold wrap64; omega
    have e2 : (q ++ [a]).take ((q.length : Int)).toNat = q := by simp
    refine Ev.step (fun k => rfl) ?_
    simp only [impl_stripped.f, impl_stripped.l0]
    rw [e1, rd_last, e2]
    simp only [List.length_append, List.length_singleton] at hl ⊢
    refine Ev_if (fun _ => Ev_if (fun _ => Ev_if (fun _ => Ev_if (fun h => Ev_if (fun _ => ?_) (fun h => by omega)) (fun h => ?_)) (fun h => by omega)) (fun h => by omega)) (fun h => by omega)
    · subst h; rw [trimI_zero]; exact ih q hq (by omega)
    · rw [trimI_last q a h]; exact Ev_bindS (clone_eq _ (by simp; omega)) (Ev.now _)
theorem rd_out (Y : List Int) (j : Nat) (h : Y.length ≤ j) : rd Y (j : Int) = 0 := by unfold rd; simp only [Int.toNat_natCast]; simp [h]
theorem quot_l1 (q : List Int) (b : Int) (Y : List Int) (c : Nat) (hq : q.length ≤ 1000000) (hY : c < Y.length) (hYl : Y.length ≤ 1000000) (n : Nat) : ∀ (i : Nat) (R : List Int), i ≤ q.length → q.length - i = n → c + q.length ≤ R.length →
    ∃ R', R'.length = R.length ∧ (∀ r, Ev (fun z => spec_sgDivide.l0 z q R' Y ((c : Int) - 1)) r → Ev (fun z => spec_sgDivide.l1 z q R Y (c : Int) q (q.length : Int) (i : Int)) r) ∧
      (∀ r, Ev (fun z => impl_quotient.l0 z q R' b Y ((c : Int) - 1)) r → Ev (fun z => impl_quotient.l1 z q R b Y (c : Int) q (q.length : Int) (i : Int)) r) := by
  have hw : wrap64 ((c : Int) - 1) = (c : Int) - 1 := by unfold wrap64; omega
  induction n with
  | zero =>
    intro i R hi hn hR
    refine ⟨R, rfl, fun r hr => ?_, fun r hr => ?_⟩
    · refine Ev.step (fun z => rfl) ?_
      simp only [spec_sgDivide.l1]
      rw [hw]
      exact Ev_if (fun h => by omega) (fun _ => hr)
    · refine Ev.step (fun z => rfl) ?_
      simp only [impl_quotient.l1]
      rw [hw]
      exact Ev_if (fun h => by omega) (fun _ => hr)
  | succ n ih =>
    intro i R hi hn hR
    obtain ⟨v, hv⟩ : ∃ v, v = wrap64 (rd R ((c + i : Nat) : Int) - wrap64 (rd Y (c : Int) * rd q (i : Int))) := ⟨_, rfl⟩
    obtain ⟨R', h1, h2, h3⟩ := ih (i + 1) (R.set (c + i) v) (by omega) (by omega) (by rw [List.length_set]; omega)
    refine ⟨R', by rw [h1, List.length_set], fun r hr => ?_, fun r hr => ?_⟩
    · refine Ev.step (fun z => rfl) ?_
      simp only [spec_sgDivide.l1]
      rw [wrap_next i (by omega), wrap_sum c i (by omega), Int.toNat_natCast, ← hv]
      exact Ev_if (fun _ => Ev_if (fun _ => Ev_if (fun _ => Ev_if (fun _ => Ev_if (fun _ => Ev_if (fun _ => Ev_if (fun _ => h2 r hr) (fun h => by omega)) (fun h => by omega)) (fun h => by omega)) (fun h => by omega)) (fun h => by omega)) (fun h => by omega)) (fun h => by omega)
    · refine Ev.step (fun z => rfl) ?_
      simp only [impl_quotient.l1]
      rw [wrap_next i (by omega), wrap_sum c i (by omega), Int.toNat_natCast, ← hv]
      exact Ev_if (fun _ => Ev_if (fun _ => Ev_if (fun _ => Ev_if (fun _ => Ev_if (fun _ => Ev_if (fun _ => Ev_if (fun _ => h3 r hr) (fun h => by omega)) (fun h => by omega)) (fun h => by omega)) (fun h => by omega)) (fun h => by omega)) (fun h => by omega)) (fun h => by omega)
def inG (x : Int) : Prop := -1000000000 ≤ x ∧ x ≤ 1000000000
/-- What is left of a division from place n - 1 down, on both sides. -/
theorem quot_l0 (q : List Int) (hq : 0 < q.length ∧ q.length ≤ 1000000) (hb : rd q ((q.length : Int) - 1) ≠ 0) (n : Nat) : ∀ (R Y : List Int), n + q.length ≤ R.length + 1 → R.length ≤ 1000000 → n ≤ Y.length → Y.length ≤ 1000000 →
    (Ev (fun z => spec_sgDivide.l0 z q R Y ((n : Int) - 1)) ([], false) ∧ Ev (fun z => impl_quotient.l0 z q R (rd q ((q.length : Int) - 1)) Y ((n : Int) - 1)) ([], false)) ∨
    ∃ R' Y', R'.length = R.length ∧ Y'.length = Y.length ∧ (∀ j : Nat, n ≤ j → rd Y' (j : Int) = rd Y (j : Int)) ∧ (n ≠ 0 → rd Y' ((n : Int) - 1) = wrap64 (Int.tdiv (rd R ((n : Int) + (q.length : Int) - 2)) (rd q ((q.length : Int) - 1))) ∧ Int.tmod (rd R ((n : Int) + (q.length : Int) - 2)) (rd q ((q.length : Int) - 1)) = 0) ∧
      (∀ r, Ev (fun z => (impl_stripped.f z R').bind fun t => if (t.length : Int) > 0 then some ([], false) else (impl_stripped.f z Y').bind fun t => some (t, true)) r → Ev (fun z => impl_quotient.l0 z q R (rd q ((q.length : Int) - 1)) Y ((n : Int) - 1)) r) ∧
      ((∀ r, Ev (fun z => (spec_l1All.f z R' 0 0).bind fun t => some (Y', t)) r → Ev (fun z => spec_sgDivide.l0 z q R Y ((n : Int) - 1)) r) ∨
        (Ev (fun z => spec_sgDivide.l0 z q R Y ((n : Int) - 1)) ([], false) ∧ ∃ j : Nat, j < Y'.length ∧ ¬ inG (rd Y' (j : Int)))) := by
  have hw1 : wrap64 ((q.length : Int) - 1) = (q.length : Int) - 1 := by unfold wrap64; omega
  induction n with
  | zero =>
    intro R Y hR hRl hY hYl
    refine .inr ⟨R, Y, rfl, rfl, fun _ _ => rfl, fun h => absurd rfl h, fun r hr => ?_, .inl fun r hr => ?_⟩
    · refine Ev.step (fun z => rfl) ?_
      simp only [impl_quotient.l0]
      exact Ev_if (fun h => by omega) (fun _ => hr)
    · refine Ev.step (fun z => rfl) ?_
      simp only [spec_sgDivide.l0]
      exact Ev_if (fun h => by omega) (fun _ => hr)
  | succ n ih =>
    intro R Y hR hRl hY hYl
    have en : (((n + 1 : Nat) : Int) - 1) = (n : Int) := by omega
    have e2 : (((n + 1 : Nat) : Int) + (q.length : Int) - 2) = (n : Int) + (q.length : Int) - 1 := by omega
    rw [en, e2]
    have hwt : wrap64 (wrap64 ((n : Int) + (q.length : Int)) - 1) = (n : Int) + (q.length : Int) - 1 := by unfold wrap64; omega
    obtain ⟨b, hbe⟩ : ∃ b, rd q ((q.length : Int) - 1) = b := ⟨_, rfl⟩
    obtain ⟨top, htop⟩ : ∃ t, rd R ((n : Int) + (q.length : Int) - 1) = t := ⟨_, rfl⟩
    rw [hbe] at hb ih
    rw [hbe, htop]
    by_cases hm : Int.tmod top b = 0
    · obtain ⟨c, hc⟩ : ∃ c, wrap64 (Int.tdiv top b) = c := ⟨_, rfl⟩
      rw [hc]
      obtain ⟨R1, g1, g2, g3⟩ := quot_l1 q b (Y.set n c) n hq.2 (by rw [List.length_set]; omega) (by rw [List.length_set]; omega) q.length 0 R (by omega) (by omega) (by omega)
      have hYn : rd (Y.set n c) (n : Int) = c := by rw [rd_getElem _ n (by rw [List.length_set]; omega), List.getElem_set_self]
      -- the program's round
      have himpl : ∀ r, Ev (fun z => impl_quotient.l0 z q R1 b (Y.set n c) ((n : Int) - 1)) r → Ev (fun z => impl_quotient.l0 z q R b Y (n : Int)) r := by
        intro r hr
        refine Ev.step (fun z => rfl) ?_
        simp only [impl_quotient.l0]
        rw [hwt, htop, hc, Int.toNat_natCast]
        exact Ev_if (fun _ => Ev_if (fun _ => Ev_if (fun _ => Ev_if (fun h => absurd h hb) (fun _ => Ev_if (fun _ => Ev_if (fun _ => Ev_if (fun _ => g3 r hr) (fun h => by omega)) (fun h => by omega)) (fun h => absurd hm h))) (fun h => by omega)) (fun h => by omega)) (fun h => by omega)
      -- the reference's round
      have hspec0 : ∀ r, Ev (fun z => spec_sgDivide.j1 z q R Y (n : Int) top b (!(decide ((-1000000000) ≤ c ∧ c ≤ 1000000000)))) r → Ev (fun z => spec_sgDivide.l0 z q R Y (n : Int)) r := by
        intro r hr
        refine Ev.step (fun z => rfl) ?_
        simp only [spec_sgDivide.l0, l1In_eq, Option.bind_some]
        rw [hwt, hw1, hbe, htop, hc]
        exact Ev_if (fun _ => Ev_if (fun _ => Ev_if (fun _ => Ev_if (fun _ => Ev_if (fun _ => Ev_if (fun h => absurd h hb) (fun _ => Ev_if (fun _ => hr) (fun h => absurd hm h))) (fun h => by omega)) (fun h => by omega)) (fun h => by omega)) (fun h => by omega)) (fun h => by omega)
      by_cases hin : inG c
      · have hspec : ∀ r, Ev (fun z => spec_sgDivide.l0 z q R1 (Y.set n c) ((n : Int) - 1)) r → Ev (fun z => spec_sgDivide.l0 z q R Y (n : Int)) r := by
          intro r hr
          refine hspec0 r ?_
          rw [decide_eq_true (show (-1000000000) ≤ c ∧ c ≤ 1000000000 from hin)]
          refine Ev.step (fun z => rfl) ?_
          simp only [spec_sgDivide.j1]
          rw [hc, Int.toNat_natCast]
          exact Ev_if (fun h => by cases h) (fun _ => Ev_if (fun h => absurd h hb) (fun _ => Ev_if (fun _ => Ev_if (fun _ => g2 r hr) (fun h => by omega)) (fun h => by omega)))
        rcases ih R1 (Y.set n c) (by omega) (by omega) (by rw [List.length_set]; omega) (by rw [List.length_set]; omega) with ⟨f1, f2⟩ | ⟨R', Y', k1, k2, k3, k4, k5, k6⟩
        · exact .inl ⟨hspec _ f1, himpl _ f2⟩
        · refine .inr ⟨R', Y', by omega, by rw [k2, List.length_set], fun j hj => ?_, fun _ => ⟨?_, hm⟩, fun r hr => himpl r (k5 r hr), ?_⟩
          · rw [k3 j (by omega)]
            by_cases hjl : j < Y.length
            · rw [rd_getElem _ j (by rw [List.length_set]; exact hjl), rd_getElem Y j hjl, List.getElem_set_ne (by omega)]
            · rw [rd_out _ j (by rw [List.length_set]; omega), rd_out _ j (by omega)]
          · rw [k3 n (Nat.le_refl _), hYn]
          · rcases k6 with k6 | ⟨k6, k7⟩
            · exact .inl fun r hr => hspec r (k6 r hr)
            · exact .inr ⟨hspec _ k6, k7⟩
      · have hspec : Ev (fun z => spec_sgDivide.l0 z q R Y (n : Int)) ([], false) := by
          refine hspec0 _ ?_
          rw [decide_eq_false (show ¬ ((-1000000000) ≤ c ∧ c ≤ 1000000000) from hin)]
          exact Ev.step (f := fun _ => some ([], false)) (fun z => rfl) (Ev.now _)
        rcases ih R1 (Y.set n c) (by omega) (by omega) (by rw [List.length_set]; omega) (by rw [List.length_set]; omega) with ⟨f1, f2⟩ | ⟨R', Y', k1, k2, k3, k4, k5, k6⟩
        · exact .inl ⟨hspec, himpl _ f2⟩
        · refine .inr ⟨R', Y', by omega, by rw [k2, List.length_set], fun j hj => ?_, fun _ => ⟨?_, hm⟩, fun r hr => himpl r (k5 r hr), .inr ⟨hspec, n, by rw [k2, List.length_set]; omega, ?_⟩⟩
          · rw [k3 j (by omega)]
            by_cases hjl : j < Y.length
            · rw [rd_getElem _ j (by rw [List.length_set]; exact hjl), rd_getElem Y j hjl, List.getElem_set_ne (by omega)]
            · rw [rd_out _ j (by rw [List.length_set]; omega), rd_out _ j (by omega)]
          · rw [k3 n (Nat.le_refl _), hYn]
          · rw [k3 n (Nat.le_refl _), hYn]; exact hin
    · refine .inl ⟨?_, ?_⟩
      · refine Ev.step (fun z => rfl) ?_
        simp only [spec_sgDivide.l0]
        rw [hwt, hw1, hbe, htop]
        refine Ev_if (fun _ => Ev_if (fun _ => Ev_if (fun _ => Ev_if (fun _ => Ev_if (fun _ => Ev_if (fun h => absurd h hb) (fun _ => Ev_if (fun h => absurd h hm) (fun _ => ?_))) (fun h => by omega)) (fun h => by omega)) (fun h => by omega)) (fun h => by omega)) (fun h => by omega)
        exact Ev.step (f := fun _ => some ([], false)) (fun z => rfl) (Ev.now _)
      · refine Ev.step (fun z => rfl) ?_
        simp only [impl_quotient.l0]
        rw [hwt, htop]
        exact Ev_if (fun _ => Ev_if (fun _ => Ev_if (fun _ => Ev_if (fun h => absurd h hb) (fun _ => Ev_if (fun h => absurd h hm) (fun _ => Ev.now _))) (fun h => by omega)) (fun h => by omega)) (fun h => by omega)
theorem trimI_mem (l : List Int) (x : Int) (hx : x ≠ 0) : x ∈ l → x ∈ trimI l := by
  generalize hn : l.length = n
  induction n generalizing l with
  | zero => intro h; have := List.eq_nil_of_length_eq_zero hn; subst this; cases h
  | succ n ih =>
    intro h
    obtain ⟨q, a, rfl⟩ := List_snoc l (by omega)
    by_cases ha : a = 0
    · subst ha
      rw [trimI_zero]
      refine ih q (by simpa using hn) ?_
      rcases List.mem_append.1 h with h | h
      · exact h
      · simp at h; exact absurd h hx
    · rw [trimI_last q a ha]; exact h
theorem trimI_nil_iff (l : List Int) : trimI l = [] ↔ (l.all fun x => decide (0 ≤ x ∧ x ≤ 0)) = true := by
  constructor
  · intro h
    rw [List.all_eq_true]
    intro x hx
    rw [decide_eq_true_eq]
    by_cases h0 : x = 0
    · omega
    · have := trimI_mem l x h0 hx; rw [h] at this; cases this
  · intro h
    have e : l = List.replicate l.length 0 := by
      refine List.eq_replicate_iff.2 ⟨rfl, fun x hx => ?_⟩
      have := List.all_eq_true.1 h x hx
      simp at this; omega
    rw [e]
    induction l.length with
    | zero => rfl
    | succ n ih => rw [List.replicate_succ', trimI_zero, ih]
theorem good_trim (Y : List Int) (j : Nat) (hj : j < Y.length) (h : ¬ inG (rd Y (j : Int))) : goodB (trimI Y) = false := by
  cases hg : goodB (trimI Y) with
  | false => rfl
  | true =>
    exfalso
    have h0 : rd Y (j : Int) ≠ 0 := fun e => h (by rw [e]; unfold inG; omega)
    have := good_bound _ hg _ (trimI_mem Y _ h0 (rd_mem Y j hj))
    exact h (by unfold inG; omega)
theorem trimI_keep (Y : List Int) (h0 : 0 < Y.length) (h : rd Y ((Y.length : Int) - 1) ≠ 0) : trimI Y = Y := by
  obtain ⟨q, a, rfl⟩ := List_snoc Y h0
  have e : (((q ++ [a]).length : Int) - 1) = (q.length : Int) := by simp
  rw [e, rd_last] at h
  exact trimI_last q a h
theorem tdiv_ne (a b : Int) (ha : a ≠ 0) (hm : Int.tmod a b = 0) : Int.tdiv a b ≠ 0 := by
  intro h
  have := Int.mul_tdiv_add_tmod a b
  rw [h, hm] at this
  simp at this; omega
theorem natAbs_tdiv_le (a b : Int) : (Int.tdiv a b).natAbs ≤ a.natAbs := by rw [Int.natAbs_tdiv]; exact Nat.div_le_self _ _
theorem quotient_key (p q : List Int) (hgp : goodB p = true) (hgq : goodB q = true) (hq0 : 0 < q.length) :
    ∃ r1 r2, Ev (fun z => (spec_sgDivide.f z p q).bind fun bt => if bt.2 = true then (spec_sgGood.f z bt.1).bind fun t => if t = true then some (bt.1, true) else some (([] : List Int), false) else some (([] : List Int), false)) (r1, r2) ∧
      Ev (fun z => (impl_quotient.f z p q).bind fun bt => (impl_singleResult.f z bt.1 bt.2).bind fun bt => some (bt.1, bt.2)) (r1, r2) ∧ r1.length ≤ 1000000 := by
  have hp9 := good_length p hgp
  have hq9 := good_length q hgq
  have hb := good_last q hgq hq0
  have hw1 : wrap64 ((q.length : Int) - 1) = (q.length : Int) - 1 := by unfold wrap64; omega
  have hfail : Ev (fun z => (impl_singleResult.f z ([] : List Int) false).bind fun bt => some (bt.1, bt.2)) ([], false) := by
    refine Ev.bind (a := ([], false)) ?_ (Ev.now _)
    exact Ev_if (fun h => by cases h) (fun _ => Ev.now _)
  by_cases hlt : p.length < q.length
  · have himpl0 : ∀ r, Ev (fun z => impl_quotient.l0 z q p (rd q ((q.length : Int) - 1)) [] (-1)) r → Ev (fun z => impl_quotient.f z p q) r := by
      intro r hr
      unfold impl_quotient.f
      refine Ev_bindS (clone_eq p (by omega)) ?_
      have e : mx (wrap64 (wrap64 ((p.length : Int) - (q.length : Int)) + 1)) 0 = 0 := by
        have : wrap64 (wrap64 ((p.length : Int) - (q.length : Int)) + 1) = (p.length : Int) - (q.length : Int) + 1 := by unfold wrap64; omega
        rw [this]; unfold mx; split <;> omega
      rw [hw1, e]
      refine Ev_if (fun _ => Ev_if (fun _ => Ev_if (fun _ => Ev_if (fun _ => Ev_bindS (x := ([] : List Int)) rfl ?_) (fun h => absurd (by decide) h)) (fun h => by omega)) (fun h => by omega)) (fun h => by omega)
      rw [show wrap64 ((([] : List Int).length : Int) - 1) = -1 by simp [wrap64]]
      exact hr
    have hl0 : ∀ r, Ev (fun z => (impl_stripped.f z p).bind fun t => if (t.length : Int) > 0 then some (([] : List Int), false) else (impl_stripped.f z []).bind fun t => some (t, true)) r → Ev (fun z => impl_quotient.l0 z q p (rd q ((q.length : Int) - 1)) [] (-1)) r := by
      intro r hr
      refine Ev.step (fun z => rfl) ?_
      simp only [impl_quotient.l0]
      exact Ev_if (fun h => by omega) (fun _ => hr)
    have hsp : Ev (fun z => spec_sgDivide.f z p q) ([], (p.length : Int) == 0) := Ev_if (fun _ => Ev.now _) (fun h => by omega)
    by_cases hp0 : p.length = 0
    · have := List.eq_nil_of_length_eq_zero hp0
      subst this
      have g0 : goodB [] = true := rfl
      refine ⟨[], true, ?_, ?_, by simp⟩
      · refine Ev.bind hsp ?_
        refine Ev_if (fun _ => Ev.bind (sgGood_ev [] (by simp)) ?_) (fun h => absurd rfl h)
        rw [g0]; exact Ev.now _
      · refine Ev.bind (himpl0 _ (hl0 _ (Ev.bind (stripped_eq 0 [] rfl (by simp)) (Ev_if (fun h => by simp [trimI] at h) (fun _ => Ev.bind (stripped_eq 0 [] rfl (by simp)) (Ev.now _)))))) ?_
        refine Ev.bind (a := ([], true)) ?_ (Ev.now _)
        refine Ev_if (fun _ => Ev.bind (isSingle_ev _ (by simp [trimI])) ?_) (fun h => absurd rfl h)
        exact Ev_if (fun _ => Ev.now _) (fun h => absurd rfl h)
    · have hk := trimI_keep p (by omega) (good_last p hgp (by omega))
      refine ⟨[], false, ?_, ?_, by simp⟩
      · refine Ev.bind hsp ?_
        have e : ((p.length : Int) == 0) = false := by simp only [beq_eq_false_iff_ne]; omega
        rw [e]; exact Ev_if (fun h => by cases h) (fun _ => Ev.now _)
      · refine Ev.bind (himpl0 ([], false) (hl0 _ (Ev.bind (stripped_eq _ p rfl (by omega)) ?_))) hfail
        rw [hk]
        exact Ev_if (fun _ => Ev.now _) (fun h => by omega)
  · obtain ⟨N, hN⟩ : ∃ N, N = p.length - q.length + 1 := ⟨_, rfl⟩
    have hdl : wrap64 (wrap64 ((p.length : Int) - (q.length : Int)) + 1) = (N : Int) := by unfold wrap64; omega
    have hbig : N ≤ 35184372088832 := by omega
    have himpl : ∀ r, Ev (fun z => impl_quotient.l0 z q p (rd q ((q.length : Int) - 1)) (List.replicate N 0) ((N : Int) - 1)) r → Ev (fun z => impl_quotient.f z p q) r := by
      intro r hr
      unfold impl_quotient.f
      refine Ev_bindS (clone_eq p (by omega)) ?_
      have e : mx (N : Int) 0 = (N : Int) := by unfold mx; split <;> omega
      rw [hw1, hdl, e, Int.toNat_natCast]
      refine Ev_if (fun _ => Ev_if (fun _ => Ev_if (fun _ => Ev_if (fun _ => Ev_bindS rfl ?_) (fun h => absurd hbig h)) (fun h => by omega)) (fun h => by omega)) (fun h => by omega)
      rw [List.length_replicate, show wrap64 ((N : Int) - 1) = (N : Int) - 1 by unfold wrap64; omega]
      exact hr
    have hspec : ∀ r, Ev (fun z => spec_sgDivide.l0 z q p (List.replicate N 0) ((N : Int) - 1)) r → Ev (fun z => spec_sgDivide.f z p q) r := by
      intro r hr
      unfold spec_sgDivide.f
      refine Ev_if (fun h => by omega) (fun _ => Ev_bindS (own_eq p (by omega)) ?_)
      rw [hdl, Int.toNat_natCast]
      refine Ev_if (fun _ => Ev_if (fun _ => Ev_bindS rfl ?_) (fun h => absurd hbig h)) (fun h => by omega)
      rw [List.length_replicate, show wrap64 ((N : Int) - 1) = (N : Int) - 1 by unfold wrap64; omega]
      exact hr
    rcases quot_l0 q ⟨hq0, by omega⟩ hb N p (List.replicate N 0) (by omega) (by omega) (by simp) (by simp; omega) with ⟨f1, f2⟩ | ⟨R', Y', k1, k2, k3, k4, k5, k6⟩
    · refine ⟨[], false, ?_, Ev.bind (himpl _ f2) hfail, by simp⟩
      exact Ev.bind (hspec _ f1) (Ev_if (fun h => by cases h) (fun _ => Ev.now _))
    · rw [List.length_replicate] at k2
      have hYl : Y'.length ≤ 1000000 := by omega
      have hstrip := stripped_eq _ R' rfl (by omega)
      have hstripY := stripped_eq _ Y' rfl hYl
      have hAll : Ev (fun z => spec_l1All.f z R' 0 0) (R'.all fun x => decide (0 ≤ x ∧ x ≤ 0)) := ⟨R'.length + 1, fun k hk => l1All_eq R' _ _ (by omega) k (by omega)⟩
      by_cases hz : trimI R' = []
      · have hz2 := (trimI_nil_iff R').1 hz
        rw [hz] at hstrip
        rw [hz2] at hAll
        have hI : Ev (fun z => impl_quotient.f z p q) (trimI Y', true) := by
          refine himpl _ (k5 _ (Ev.bind hstrip ?_))
          exact Ev_if (fun h => by simp at h) (fun _ => Ev.bind hstripY (Ev.now _))
        rcases k6 with k6 | ⟨k6, j, hj, hjn⟩
        · -- all quotients small: the last one is not 0
          have h4 := k4 (by omega)
          have hidx : (N : Int) + (q.length : Int) - 2 = (p.length : Int) - 1 := by omega
          rw [hidx] at h4
          have hpl := good_last p hgp (by omega)
          have hpm : rd p ((p.length : Int) - 1) ∈ p := by
            have e : ((p.length : Int) - 1) = ((p.length - 1 : Nat) : Int) := by omega
            rw [e]; exact rd_mem p _ (by omega)
          have hpb := good_bound p hgp _ hpm
          have hne : rd Y' ((Y'.length : Int) - 1) ≠ 0 := by
            rw [k2, h4.1]
            have h5 := tdiv_ne _ _ hpl h4.2
            have h6 := natAbs_tdiv_le (rd p ((p.length : Int) - 1)) (rd q ((q.length : Int) - 1))
            rw [show wrap64 (Int.tdiv (rd p ((p.length : Int) - 1)) (rd q ((q.length : Int) - 1))) = Int.tdiv (rd p ((p.length : Int) - 1)) (rd q ((q.length : Int) - 1)) by unfold wrap64; omega]
            exact h5
          have hk := trimI_keep Y' (by omega) hne
          rw [hk] at hI
          cases hg : goodB Y' with
          | true =>
            refine ⟨Y', true, ?_, ?_, hYl⟩
            · refine Ev.bind (hspec _ (k6 _ (Ev.bind hAll (Ev.now _)))) ?_
              refine Ev_if (fun _ => Ev.bind (sgGood_ev _ hYl) ?_) (fun h => absurd rfl h)
              rw [hg]; exact Ev.now _
            · refine Ev.bind hI (Ev.bind (a := (Y', true)) ?_ (Ev.now _))
              refine Ev_if (fun _ => Ev.bind (isSingle_ev _ hYl) ?_) (fun h => absurd rfl h)
              rw [hg]; exact Ev.now _
          | false =>
            refine ⟨[], false, ?_, ?_, by simp⟩
            · refine Ev.bind (hspec _ (k6 _ (Ev.bind hAll (Ev.now _)))) ?_
              refine Ev_if (fun _ => Ev.bind (sgGood_ev _ hYl) ?_) (fun h => absurd rfl h)
              rw [hg]; exact Ev.now _
            · refine Ev.bind hI (Ev.bind (a := ([], false)) ?_ (Ev.now _))
              refine Ev_if (fun _ => Ev.bind (isSingle_ev _ hYl) ?_) (fun h => absurd rfl h)
              rw [hg]; exact Ev.now _
        · have hg := good_trim Y' j hj hjn
          refine ⟨[], false, Ev.bind (hspec _ k6) (Ev_if (fun h => by cases h) (fun _ => Ev.now _)), ?_, by simp⟩
          refine Ev.bind hI (Ev.bind (a := ([], false)) ?_ (Ev.now _))
          refine Ev_if (fun _ => Ev.bind (isSingle_ev _ (Nat.le_trans (trimI_length _) hYl)) ?_) (fun h => absurd rfl h)
          rw [hg]; exact Ev.now _
      · have hz2 : (R'.all fun x => decide (0 ≤ x ∧ x ≤ 0)) = false := by
          cases h : (R'.all fun x => decide (0 ≤ x ∧ x ≤ 0)) with
          | false => rfl
          | true => exact absurd ((trimI_nil_iff R').2 h) hz
        rw [hz2] at hAll
        have hlen : 0 < (trimI R').length := List.length_pos_iff.2 hz
        refine ⟨[], false, ?_, Ev.bind (himpl ([], false) (k5 _ (Ev.bind hstrip (Ev_if (fun _ => Ev.now _) (fun h => by omega))))) hfail, by simp⟩
        rcases k6 with k6 | ⟨k6, _⟩
        · exact Ev.bind (hspec _ (k6 _ (Ev.bind hAll (Ev.now _)))) (Ev_if (fun h => by cases h) (fun _ => Ev.now _))
        · exact Ev.bind (hspec _ k6) (Ev_if (fun h => by cases h) (fun _ => Ev.now _))
theorem Pure_holds : Pure := by
  intro p q hp _ hq _ _
  have key : ∃ r1 r2, Ev (fun k => spec_QuotientOf.f k p q) (r1, r2) ∧ Ev (fun k => impl_QuotientOf.f k p q) (r1, r2) ∧ r1.length ≤ 1000000 := by
    have hj0 : ∀ z, spec_QuotientOf.j0 (z + 1) p q true = some ([], false) := fun z => rfl
    have hj1 : ∀ z, impl_QuotientOf.j0 (z + 1) p q true = some ([], false) := fun z => rfl
    cases hgp : goodB p with
    | false =>
      refine ⟨[], false, ?_, ?_, by simp⟩
      · refine Ev.bind (sgGood_ev p hp) ?_; rw [hgp]
        exact Ev_if (fun h => by cases h) (fun _ => Ev.step hj0 (Ev.now _))
      · refine Ev.bind (isSingle_ev p hp) ?_; rw [hgp]
        exact Ev_if (fun h => by cases h) (fun _ => Ev.step hj1 (Ev.now _))
    | true =>
      cases hgq : goodB q with
      | false =>
        refine ⟨[], false, ?_, ?_, by simp⟩
        · refine Ev.bind (sgGood_ev p hp) ?_; rw [hgp]
          refine Ev_if (fun _ => Ev.bind (sgGood_ev q hq) ?_) (fun h => absurd rfl h); rw [hgq]
          exact Ev_if (fun h => by cases h) (fun _ => Ev.step hj0 (Ev.now _))
        · refine Ev.bind (isSingle_ev p hp) ?_; rw [hgp]
          refine Ev_if (fun _ => Ev.bind (isSingle_ev q hq) ?_) (fun h => absurd rfl h); rw [hgq]
          exact Ev_if (fun h => by cases h) (fun _ => Ev.step hj1 (Ev.now _))
      | true =>
        by_cases hq0 : q.length = 0
        · have e : ((q.length : Int) == 0) = true := by rw [hq0]; rfl
          refine ⟨[], false, ?_, ?_, by simp⟩
          · refine Ev.bind (sgGood_ev p hp) ?_; rw [hgp]
            refine Ev_if (fun _ => Ev.bind (sgGood_ev q hq) ?_) (fun h => absurd rfl h); rw [hgq, e]
            exact Ev_if (fun _ => Ev.step hj0 (Ev.now _)) (fun h => absurd rfl h)
          · refine Ev.bind (isSingle_ev p hp) ?_; rw [hgp]
            refine Ev_if (fun _ => Ev.bind (isSingle_ev q hq) ?_) (fun h => absurd rfl h); rw [hgq, e]
            exact Ev_if (fun _ => Ev.step hj1 (Ev.now _)) (fun h => absurd rfl h)
        · have e : ((q.length : Int) == 0) = false := by simp only [beq_eq_false_iff_ne]; omega
          obtain ⟨r1, r2, h1, h2, h3⟩ := quotient_key p q hgp hgq (by omega)
          refine ⟨r1, r2, ?_, ?_, h3⟩
          · refine Ev.bind (sgGood_ev p hp) ?_; rw [hgp]
            refine Ev_if (fun _ => Ev.bind (sgGood_ev q hq) ?_) (fun h => absurd rfl h); rw [hgq, e]
            refine Ev_if (fun _ => ?_) (fun h => absurd rfl h)
            refine Ev.step (fun z => rfl) ?_
            simp only [spec_QuotientOf.j0]
            exact Ev_if (fun h => by cases h) (fun _ => h1)
          · refine Ev.bind (isSingle_ev p hp) ?_; rw [hgp]
            refine Ev_if (fun _ => Ev.bind (isSingle_ev q hq) ?_) (fun h => absurd rfl h); rw [hgq, e]
            refine Ev_if (fun _ => ?_) (fun h => absurd rfl h)
            refine Ev.step (fun z => rfl) ?_
            simp only [impl_QuotientOf.j0]
            exact Ev_if (fun h => by cases h) (fun _ => h2)
  obtain ⟨r1, r2, h1, h2, h3⟩ := key
  obtain ⟨ks, ki, h, h'⟩ := Ev_both h1 h2
  exact ⟨ks, ki, r1, r2, h, h', h3⟩
end Go.Proofs.Ytolacpnhndbalaa.QQuotientOf
