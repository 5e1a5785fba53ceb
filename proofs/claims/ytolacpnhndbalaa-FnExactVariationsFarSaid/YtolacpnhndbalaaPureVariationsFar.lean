/- Plain law: the reference's and the program's VariationsFar come to the same, over numbers and lists alone. -/
import Derived.Test.YtolacpnhndbalaaLVariationsFar
namespace Go.Proofs.Ytolacpnhndbalaa.QVar
open Go.RowKit Go.Proofs.YtolacpnhndbalaaW.PrintWords Go.Proofs.YtolacpnhndbalaaW.PrintLast Go.Proofs.YtolacpnhndbalaaW.PrintMore
set_option linter.unusedVariables false
set_option linter.unusedSimpArgs false
theorem Ev_if {α : Type} {c : Prop} [Decidable c] {g f : Nat → Option α} {r : α} (hp : c → Ev g r) (hn : ¬ c → Ev f r) : Ev (fun k => if c then g k else f k) r := by
  by_cases h : c
  · simp only [if_pos h]; exact hp h
  · simp only [if_neg h]; exact hn h
theorem Ev_bindS {α β : Type} {a : Option α} {x : α} {f : Nat → α → Option β} {r : β} (h : a = some x) (k : Ev (fun n => f n x) r) : Ev (fun n => a.bind (f n)) r := by
  subst h; simpa only [Option.bind_some] using k
theorem Ev_eq {α : Type} {g : Nat → Option α} {r r' : α} (h : Ev g r) (e : r = r') : Ev g r' := e ▸ h
theorem Ev_both {α β : Type} {g : Nat → Option α} {f : Nat → Option β} {r : α} {q : β} (h : Ev g r) (h' : Ev f q) : ∃ ks ki, g ks = some r ∧ f ki = some q := by
  obtain ⟨a, ha⟩ := h.rounds
  obtain ⟨b, hb⟩ := h'.rounds
  exact ⟨a, b, ha, hb⟩
theorem l1In_eq (a b c : Int) : spec_l1In.f a b c = some (decide (b ≤ a ∧ a ≤ c)) := by
  unfold spec_l1In.f; by_cases h : b ≤ a <;> simp [h]
theorem inside_eq (a b c : Int) : impl_inside.f a b c = some (decide (b ≤ a ∧ a ≤ c)) := by
  unfold impl_inside.f; by_cases h : b ≤ a <;> simp [h]
theorem rd_getElem (l : List Int) (i : Nat) (h : i < l.length) : rd l (i : Int) = l[i] := by simp [rd, h]
theorem wrap_next (i : Nat) (h : i < 9223372036854775807) : wrap64 ((i : Int) + 1) = ((i + 1 : Nat) : Int) := by unfold wrap64; omega
theorem all_drop (l : List Int) (p : Int → Bool) (i : Nat) (h : i < l.length) : (l.drop i).all p = (p (rd l (i : Int)) && (l.drop (i + 1)).all p) := by
  rw [List.drop_eq_getElem_cons h, List.all_cons, rd_getElem l i h]
theorem rd_mem (l : List Int) (i : Nat) (h : i < l.length) : rd l (i : Int) ∈ l := by rw [rd_getElem l i h]; exact List.getElem_mem h
theorem drop_rd (l : List Int) (i : Nat) (h : i < l.length) : l.drop i = rd l (i : Int) :: l.drop (i + 1) := by rw [rd_getElem l i h]; exact List.drop_eq_getElem_cons h
theorem wrap_sum (i k : Nat) (h : i + k ≤ 4000000000000) : wrap64 ((i : Int) + (k : Int)) = ((i + k : Nat) : Int) := by unfold wrap64; omega
theorem l1All_l0 (l : List Int) (lo hi : Int) (hl : l.length ≤ 1000000) (d : Nat) : ∀ (k i : Nat), i ≤ l.length → l.length - i = d → d < k → spec_l1All.l0 k lo hi l (l.length : Int) (i : Int) = some ((l.drop i).all fun x => decide (lo ≤ x ∧ x ≤ hi)) := by
  induction d with
  | zero =>
    intro k i h1 hd hk
    obtain ⟨k, rfl⟩ : ∃ m, k = m + 1 := ⟨k - 1, by omega⟩
    simp only [spec_l1All.l0]; rw [if_neg (by omega), List.drop_eq_nil_of_le (by omega)]; rfl
  | succ d ih =>
    intro k i h1 hd hk
    obtain ⟨k, rfl⟩ : ∃ m, k = m + 1 := ⟨k - 1, by omega⟩
    simp only [spec_l1All.l0]
    rw [if_pos (by omega), if_pos (by omega), if_pos (by omega), l1In_eq, Option.bind_some, wrap_next i (by omega), all_drop l _ i (by omega)]
    by_cases hp : lo ≤ rd l (i : Int) ∧ rd l (i : Int) ≤ hi
    · rw [if_pos (decide_eq_true hp), decide_eq_true hp, ih k (i + 1) (by omega) (by omega) (by omega)]; rfl
    · rw [if_neg (by rw [decide_eq_false hp]; decide), decide_eq_false hp]; rfl
theorem l1All_eq (l : List Int) (lo hi : Int) (hl : l.length ≤ 1000000) (k : Nat) (hk : l.length < k) : spec_l1All.f k l lo hi = some (l.all fun x => decide (lo ≤ x ∧ x ≤ hi)) := by
  unfold spec_l1All.f
  have h := l1All_l0 l lo hi hl l.length k 0 (by omega) (by omega) hk
  simpa using h
def sigI (x : Int) : Int := if x < 0 then -1 else if x > 0 then 1 else 0
theorem compare_zero (x : Int) : cmp_Compare_int.f x 0 = some (sigI x) := by
  unfold cmp_Compare_int.f cmp_isNaN_int.f sigI
  simp only [bne_self_eq_false, Option.bind_some]
  rw [if_neg (by decide), if_neg (by decide)]
  by_cases h : x < 0
  · simp [h]
  · rw [if_neg h, if_neg h]; by_cases h2 : x > 0 <;> simp [h2]
theorem sigI_cases (x : Int) : sigI x = -1 ∨ sigI x = 0 ∨ sigI x = 1 := by unfold sigI; split <;> (try split) <;> simp
/-- The reference's changes of a list of signs, and the program's of any numbers with these signs. -/
theorem changes_l0 (l s : List Int) (hs : s = l.map sigI) (hl : l.length ≤ 1000000) (n : Nat) : ∀ (i : Nat) (last c : Int), i ≤ l.length → l.length - i = n → (last = -1 ∨ last = 0 ∨ last = 1) → 0 ≤ c ∧ c ≤ i →
    ∃ r, Ev (fun k => spec_stChanges.l0 k last c s (s.length : Int) (i : Int)) r ∧ Ev (fun k => impl_changes.l0 k c last l (l.length : Int) (i : Int)) r ∧ 0 ≤ r ∧ r ≤ l.length := by
  have hsl : s.length = l.length := by rw [hs]; simp
  induction n with
  | zero =>
    intro i last c hi hn hla hc
    refine ⟨c, ?_, ?_, hc.1, by omega⟩
    · refine Ev.step (fun k => rfl) ?_
      exact Ev_if (fun h => by omega) (fun _ => Ev.now _)
    · refine Ev.step (fun k => rfl) ?_
      exact Ev_if (fun h => by omega) (fun _ => Ev.now _)
  | succ n ih =>
    intro i last c hi hn hla hc
    have hrd : rd s (i : Int) = sigI (rd l (i : Int)) := by
      rw [rd_getElem s i (by omega), rd_getElem l i (by omega)]; simp [hs]
    obtain ⟨q, hq⟩ : ∃ q, sigI (rd l (i : Int)) = q := ⟨_, rfl⟩
    have hqc := sigI_cases (rd l (i : Int))
    rw [hq] at hrd hqc
    have hspec : ∀ r, Ev (fun k => spec_stChanges.l0 k (if q = 0 then last else q) (if q = 0 then c else if last = 0 then c else if q = last then c else c + 1) s (s.length : Int) ((i + 1 : Nat) : Int)) r → Ev (fun k => spec_stChanges.l0 k last c s (s.length : Int) (i : Int)) r := by
      intro r hr
      refine Ev.step (fun k => rfl) ?_
      simp only [spec_stChanges.l0]
      rw [hrd, wrap_next i (by omega), show wrap64 (c + 1) = c + 1 by unfold wrap64; omega]
      refine Ev_if (fun _ => Ev_if (fun _ => Ev_if (fun _ => ?_) (fun h => by omega)) (fun h => by omega)) (fun h => by omega)
      refine Ev_if (fun h => ?_) (fun h => Ev_if (fun h2 => ?_) (fun h2 => Ev_if (fun h3 => ?_) (fun h3 => ?_)))
      · simpa only [if_pos h] using hr
      · simpa only [if_neg h, if_pos h2] using hr
      · simp only [if_neg h, if_neg h2, if_pos h3] at hr; exact hr
      · simpa only [if_neg h, if_neg h2, if_neg h3] using hr
    have himpl : ∀ r, Ev (fun k => impl_changes.l0 k (if q = 0 then c else if q = -last then c + 1 else c) (if q = 0 then last else q) l (l.length : Int) ((i + 1 : Nat) : Int)) r → Ev (fun k => impl_changes.l0 k c last l (l.length : Int) (i : Int)) r := by
      intro r hr
      refine Ev.step (fun k => rfl) ?_
      simp only [impl_changes.l0, compare_zero, Option.bind_some]
      rw [hq, wrap_next i (by omega), show wrap64 (c + 1) = c + 1 by unfold wrap64; omega, show wrap64 (-last) = -last by unfold wrap64; omega]
      refine Ev_if (fun _ => Ev_if (fun _ => Ev_if (fun _ => ?_) (fun h => by omega)) (fun h => by omega)) (fun h => by omega)
      refine Ev_if (fun h => ?_) (fun h => Ev_if (fun h2 => ?_) (fun h2 => ?_))
      · simpa only [if_pos h] using hr
      · simpa only [if_neg h, if_pos h2] using hr
      · simpa only [if_neg h, if_neg h2] using hr
    have hc2 : (if q = 0 then c else if last = 0 then c else if q = last then c else c + 1) = (if q = 0 then c else if q = -last then c + 1 else c) := by
      rcases hqc with h | h | h <;> rcases hla with h2 | h2 | h2 <;> subst h2 <;> rw [h] <;> rfl
    obtain ⟨r, e1, e2, e3, e4⟩ := ih (i + 1) (if q = 0 then last else q) (if q = 0 then c else if q = -last then c + 1 else c) (by omega) (by omega) (by split <;> assumption) (by split <;> (try split) <;> omega)
    exact ⟨r, hspec r (by rw [hc2]; exact e1), himpl r e2, e3, e4⟩
theorem changes_eq (l s : List Int) (hs : s = l.map sigI) (hl : l.length ≤ 1000000) : ∃ r, Ev (fun k => spec_stChanges.f k s) r ∧ Ev (fun k => impl_changes.f k l) r ∧ 0 ≤ r ∧ r ≤ l.length :=
  changes_l0 l s hs hl l.length 0 0 0 (by omega) (by omega) (by omega) ⟨by omega, by omega⟩
def sgnI (x : Int) : Int := if x > 0 then 1 else if x < 0 then -1 else 0
theorem l1Sign_eq (x : Int) : spec_l1Sign.f x = some (sgnI x) := by
  unfold spec_l1Sign.f sgnI; split
  · rfl
  · split <;> rfl
theorem rdL1_at (xs : List (List Int)) (j : Nat) (h : j < xs.length) : rd_L1 xs (j : Int) = xs[j] := by simp [rd_L1, h]
/-- Lists that may be given. -/
def partB (q : List Int) : Bool := decide (q.length ≤ 9) && q.all fun x => decide ((-1000000000) ≤ x ∧ x ≤ 1000000000)
def listsB (c : List (List Int)) : Bool := (c.all partB) && decide (1 ≤ (c.length : Int) ∧ (c.length : Int) ≤ 9)
theorem any_part (l : List Int) : slices_ContainsFunc_int_int_99__impl_areLists_1.f l = some (!(l.all fun x => decide ((-1000000000) ≤ x ∧ x ≤ 1000000000))) := by
  induction l with
  | nil => rfl
  | cons x t ih =>
    simp only [slices_ContainsFunc_int_int_99__impl_areLists_1.f, impl_areLists_1.f, inside_eq, Option.bind_some, List.all_cons]
    by_cases h : (-1000000000) ≤ x ∧ x ≤ 1000000000
    · rw [decide_eq_true h, if_neg (by decide), ih]; rfl
    · rw [decide_eq_false h, if_pos (by decide)]; rfl
theorem part_long (q : List Int) (h : ¬ q.length ≤ 9) : partB q = false := by unfold partB; rw [decide_eq_false h]; rfl
theorem part_short (q : List Int) (h : q.length ≤ 9) : partB q = q.all fun x => decide ((-1000000000) ≤ x ∧ x ≤ 1000000000) := by unfold partB; rw [decide_eq_true h]; rfl
theorem all_dropL (c : List (List Int)) (i : Nat) (h : i < c.length) : (c.drop i).all partB = (partB c[i] && (c.drop (i + 1)).all partB) := by
  rw [List.drop_eq_getElem_cons h, List.all_cons]
theorem lists_loop (c : List (List Int)) (hc : c.length ≤ 1000000) (n : Nat) : ∀ i : Nat, i ≤ c.length → c.length - i = n →
    Ev (fun k => spec_stLists.l0 k c c (c.length : Int) (i : Int)) ((c.drop i).all partB && decide (1 ≤ (c.length : Int) ∧ (c.length : Int) ≤ 9)) ∧
    Ev (fun k => impl_areLists.l0 k c c (c.length : Int) (i : Int)) ((c.drop i).all partB && decide (1 ≤ (c.length : Int) ∧ (c.length : Int) ≤ 9)) := by
  induction n with
  | zero =>
    intro i hi hn
    rw [List.drop_eq_nil_of_le (by omega), List.all_nil, Bool.true_and]
    refine ⟨?_, ?_⟩
    · refine Ev.step (fun z => rfl) ?_
      simp only [spec_stLists.l0]
      exact Ev_if (fun h => by omega) (fun _ => Ev_bindS (l1In_eq _ _ _) (Ev.now _))
    · refine Ev.step (fun z => rfl) ?_
      simp only [impl_areLists.l0]
      exact Ev_if (fun h => by omega) (fun _ => Ev_bindS (inside_eq _ _ _) (Ev.now _))
  | succ n ih =>
    intro i hi hn
    have hlt : i < c.length := by omega
    obtain ⟨j1, j2⟩ := ih (i + 1) (by omega) (by omega)
    obtain ⟨q, hq⟩ : ∃ q, c[i] = q := ⟨_, rfl⟩
    have e1 : rd_L1 c (i : Int) = q := by rw [rdL1_at c i hlt, hq]
    have e2 := all_dropL c i hlt
    rw [hq] at e2
    rw [e2]
    refine ⟨?_, ?_⟩
    · refine Ev.step (fun z => rfl) ?_
      simp only [spec_stLists.l0]
      rw [e1, wrap_next i (by omega)]
      refine Ev_if (fun _ => Ev_if (fun _ => Ev_if (fun _ => Ev_if (fun hx => ?_) (fun hx => ?_)) (fun h => by omega)) (fun h => by omega)) (fun h => by omega)
      · rw [part_long q (by omega)]; exact Ev.now _
      · have h9 : q.length ≤ 9 := by omega
        rw [part_short q h9]
        refine Ev.bind (show Ev (fun k => spec_l1All.f k q (-1000000000) 1000000000) (q.all fun x => decide ((-1000000000) ≤ x ∧ x ≤ 1000000000)) from ⟨q.length + 1, fun k hk => l1All_eq q _ _ (by omega) k (by omega)⟩) ?_
        cases q.all fun x => decide ((-1000000000) ≤ x ∧ x ≤ 1000000000) with
        | true => exact Ev_if (fun _ => j1) (fun h => absurd rfl h)
        | false => exact Ev_if (fun h => by cases h) (fun _ => Ev.now _)
    · refine Ev.step (fun z => rfl) ?_
      simp only [impl_areLists.l0]
      rw [e1, wrap_next i (by omega)]
      refine Ev_if (fun _ => Ev_if (fun _ => Ev_if (fun _ => Ev_if (fun hx => ?_) (fun hx => ?_)) (fun h => by omega)) (fun h => by omega)) (fun h => by omega)
      · rw [part_long q (by omega)]; exact Ev.now _
      · have h9 : q.length ≤ 9 := by omega
        rw [part_short q h9]
        refine Ev_bindS (any_part q) ?_
        cases q.all fun x => decide ((-1000000000) ≤ x ∧ x ≤ 1000000000) with
        | true => exact Ev_if (fun h => by cases h) (fun _ => j2)
        | false => exact Ev_if (fun _ => Ev.now _) (fun h => absurd rfl h)
theorem stLists_ev (c : List (List Int)) (hc : c.length ≤ 1000000) : Ev (fun k => spec_stLists.f k c) (listsB c) := (lists_loop c hc c.length 0 (by omega) (by omega)).1
theorem areLists_ev (c : List (List Int)) (hc : c.length ≤ 1000000) : Ev (fun k => impl_areLists.f k c) (listsB c) := (lists_loop c hc c.length 0 (by omega) (by omega)).2
theorem lists_part (c : List (List Int)) (h : listsB c = true) : (∀ q ∈ c, (∀ x ∈ q, (-1000000000 : Int) ≤ x ∧ x ≤ 1000000000) ∧ q.length ≤ 9) ∧ 1 ≤ c.length ∧ c.length ≤ 9 := by
  unfold listsB partB at h
  simp only [Bool.and_eq_true, List.all_eq_true, decide_eq_true_eq] at h
  refine ⟨fun q hq => ⟨(h.1 q hq).2, (h.1 q hq).1⟩, by omega, by omega⟩
theorem rd_L1_get (c : List (List Int)) (i : Nat) (h : i < c.length) : rd_L1 c (i : Int) = c[i] := rdL1_at c i h
theorem sgn_sig (x : Int) : sgnI x = sigI x := by unfold sgnI sigI; split <;> (try split) <;> omega
theorem sig_sig (x : Int) : sigI (sigI x) = sigI x := by rcases sigI_cases x with h | h | h <;> rw [h] <;> rfl
/-- The sign of a list far away. -/
def farS (up : Bool) (q : List Int) : Int := if up = true then sigI (rd q ((q.length : Int) - 1)) else if (q.length : Int) % 2 = 0 then -(sigI (rd q ((q.length : Int) - 1))) else sigI (rd q ((q.length : Int) - 1))
theorem farS_sig (up : Bool) (q : List Int) : sigI (farS up q) = farS up q := by
  unfold farS
  rcases sigI_cases (rd q ((q.length : Int) - 1)) with h | h | h <;> rw [h] <;> split <;> (try split) <;> rfl
theorem far_loop (up : Bool) (c : List (List Int)) (hc : c.length ≤ 1000000) (hp : ∀ q ∈ c, 0 < q.length ∧ q.length ≤ 1000000) (r : Int) (h1 : Ev (fun k => spec_stChanges.f k (c.map (farS up))) r) (h2 : Ev (fun k => impl_changes.f k (c.map (farS up))) r) (n : Nat) : ∀ i : Nat, i ≤ c.length → c.length - i = n →
    Ev (fun k => spec_stFar.l0 k up ((c.take i).map (farS up)) c (c.length : Int) (i : Int)) r ∧ Ev (fun k => impl_variationsFar.l0 k up ((c.take i).map (farS up)) c (c.length : Int) (i : Int)) r := by
  induction n with
  | zero =>
    intro i hi hn
    have e : c.take i = c := List.take_of_length_le (by omega)
    rw [e]
    refine ⟨?_, ?_⟩
    · refine Ev.step (fun z => rfl) ?_
      simp only [spec_stFar.l0]
      exact Ev_if (fun h => by omega) (fun _ => Ev.bind h1 (Ev.now _))
    · refine Ev.step (fun z => rfl) ?_
      simp only [impl_variationsFar.l0]
      exact Ev_if (fun h => by omega) (fun _ => Ev.bind h2 (Ev.now _))
  | succ n ih =>
    intro i hi hn
    have hlt : i < c.length := by omega
    obtain ⟨j1, j2⟩ := ih (i + 1) (by omega) (by omega)
    obtain ⟨q, hq⟩ : ∃ q, c[i] = q := ⟨_, rfl⟩
    obtain ⟨q0, q1⟩ := hp q (by rw [← hq]; exact List.getElem_mem hlt)
    have e1 : rd_L1 c (i : Int) = q := by rw [rd_L1_get c i hlt, hq]
    have e2 : (c.take (i + 1)).map (farS up) = (c.take i).map (farS up) ++ [farS up q] := by rw [List.take_succ_eq_append_getElem hlt, hq]; simp
    have hw : wrap64 ((q.length : Int) - 1) = (q.length : Int) - 1 := by unfold wrap64; omega
    have hlen : ((c.take i).map (farS up)).length < 17592186044416 := by simp; omega
    rw [e2] at j1 j2
    have hneg : wrap64 (-(sigI (rd q ((q.length : Int) - 1)))) = -(sigI (rd q ((q.length : Int) - 1))) := by
      rcases sigI_cases (rd q ((q.length : Int) - 1)) with h | h | h <;> rw [h] <;> (unfold wrap64; omega)
    refine ⟨?_, ?_⟩
    · refine Ev.step (fun z => rfl) ?_
      simp only [spec_stFar.l0]
      rw [e1, hw, l1Sign_eq, sgn_sig, wrap_next i (by omega)]
      refine Ev_if (fun _ => Ev_if (fun _ => Ev_if (fun _ => Ev_if (fun _ => Ev_if (fun _ => Ev_bindS rfl ?_) (fun h => by omega)) (fun h => by omega)) (fun h => by omega)) (fun h => by omega)) (fun h => by omega)
      refine Ev_if (fun hu => Ev_if (fun _ => ?_) (fun h => absurd hlen h)) (fun hu => Ev_if (fun hv => Ev_if (fun _ => ?_) (fun h => absurd hlen h)) (fun hv => Ev_if (fun _ => ?_) (fun h => absurd hlen h)))
      · have e : farS up q = sigI (rd q ((q.length : Int) - 1)) := by unfold farS; rw [if_pos hu]
        rw [← e]; exact j1
      · have e : farS up q = -(sigI (rd q ((q.length : Int) - 1))) := by unfold farS; rw [if_neg hu, if_pos hv]
        rw [hneg, ← e]; exact j1
      · have e : farS up q = sigI (rd q ((q.length : Int) - 1)) := by unfold farS; rw [if_neg hu, if_neg hv]
        rw [← e]; exact j1
    · refine Ev.step (fun z => rfl) ?_
      simp only [impl_variationsFar.l0]
      rw [e1, hw, compare_zero, wrap_next i (by omega)]
      refine Ev_if (fun _ => Ev_if (fun _ => Ev_if (fun _ => Ev_if (fun _ => Ev_if (fun _ => Ev_bindS rfl ?_) (fun h => by omega)) (fun h => by omega)) (fun h => by omega)) (fun h => by omega)) (fun h => by omega)
      refine Ev_if (fun hu => Ev_if (fun _ => ?_) (fun h => absurd hlen h)) (fun hu => Ev_if (fun hv => Ev_if (fun _ => ?_) (fun h => absurd hlen h)) (fun hv => Ev_if (fun _ => ?_) (fun h => absurd hlen h)))
      · have e : farS up q = sigI (rd q ((q.length : Int) - 1)) := by unfold farS; rw [if_pos hu]
        rw [← e]; exact j2
      · have e : farS up q = -(sigI (rd q ((q.length : Int) - 1))) := by unfold farS; rw [if_neg hu, if_pos hv]
        rw [hneg, ← e]; exact j2
      · have e : farS up q = sigI (rd q ((q.length : Int) - 1)) := by unfold farS; rw [if_neg hu, if_neg hv]
        rw [← e]; exact j2
theorem far_ev (up : Bool) (c : List (List Int)) (hc : c.length ≤ 1000000) (hp : ∀ q ∈ c, 0 < q.length ∧ q.length ≤ 1000000) : ∃ r, Ev (fun k => spec_stFar.f k c up) r ∧ Ev (fun k => impl_variationsFar.f k c up) r ∧ 0 ≤ r ∧ r ≤ c.length := by
  obtain ⟨r, h1, h2, h3, h4⟩ := changes_eq (c.map (farS up)) (c.map (farS up)) (by
    rw [List.map_map]
    apply List.map_congr_left
    intro q _
    exact (farS_sig up q).symm) (by rw [List.length_map]; exact hc)
  obtain ⟨g1, g2⟩ := far_loop up c hc hp r h1 h2 c.length 0 (by omega) (by omega)
  rw [List.length_map] at h4
  exact ⟨r, g1, g2, h3, h4⟩
/-- A list that may stand in a chain told far away: its last coefficient isn't zero. -/
def endB (q : List Int) : Bool := if q.length = 0 then false else decide (rd q ((q.length : Int) - 1) ≠ 0)
theorem far1_eq (q : List Int) (hq : q.length ≤ 1000000) : impl_VariationsFar_1.f q = some (!endB q) := by
  unfold impl_VariationsFar_1.f endB
  by_cases h0 : q.length = 0
  · rw [if_pos (by omega), if_pos h0]; rfl
  · rw [if_neg (by omega), if_neg h0, show wrap64 ((q.length : Int) - 1) = (q.length : Int) - 1 by unfold wrap64; omega, if_pos (by omega), if_pos (by omega)]
    by_cases h : rd q ((q.length : Int) - 1) = 0
    · rw [h]; rfl
    · simp [h]
theorem anyFar (l : List (List Int)) (hl : ∀ q ∈ l, q.length ≤ 1000000) : slices_ContainsFunc_int_int_84__impl_VariationsFar_1.f l = some (!(l.all endB)) := by
  induction l with
  | nil => rfl
  | cons x t ih =>
    simp only [slices_ContainsFunc_int_int_84__impl_VariationsFar_1.f, far1_eq x (hl x (by simp)), Option.bind_some, List.all_cons]
    cases endB x with
    | true => rw [if_neg (by decide), ih (fun q hq => hl q (by simp [hq]))]; rfl
    | false => rw [if_pos (by decide)]; rfl
theorem farEnds_l0 (c : List (List Int)) (up : Bool) (hc : c.length ≤ 1000000) (hp : ∀ q ∈ c, q.length ≤ 1000000) (r : Int) (hr : c.all endB = true → Ev (fun z => spec_stFar.f z c up) r) (n : Nat) : ∀ i : Nat, i ≤ c.length → c.length - i = n →
    (c.all endB = ((c.drop i).all endB)) → Ev (fun z => spec_VariationsFar.l0 z c up c (c.length : Int) (i : Int)) (if (c.drop i).all endB = true then (r, true) else (0, false)) := by
  induction n with
  | zero =>
    intro i hi hn ha
    rw [List.drop_eq_nil_of_le (by omega)] at ha ⊢
    refine Ev.step (fun z => rfl) ?_
    simp only [spec_VariationsFar.l0]
    exact Ev_if (fun h => by omega) (fun _ => Ev.bind (hr (ha.trans rfl)) (Ev.now _))
  | succ n ih =>
    intro i hi hn ha
    have hlt : i < c.length := by omega
    obtain ⟨q, hq⟩ : ∃ q, c[i] = q := ⟨_, rfl⟩
    have q1 := hp q (by rw [← hq]; exact List.getElem_mem hlt)
    have e1 : rd_L1 c (i : Int) = q := by rw [rd_L1_get c i hlt, hq]
    have e2 : (c.drop i).all endB = (endB q && (c.drop (i + 1)).all endB) := by rw [List.drop_eq_getElem_cons hlt, List.all_cons, hq]
    have hw : wrap64 ((q.length : Int) - 1) = (q.length : Int) - 1 ∨ q.length = 0 := by unfold wrap64; omega
    refine Ev.step (fun z => rfl) ?_
    simp only [spec_VariationsFar.l0]
    rw [e1, e2, wrap_next i (by omega)]
    refine Ev_if (fun _ => Ev_if (fun _ => Ev_if (fun _ => ?_) (fun h => by omega)) (fun h => by omega)) (fun h => by omega)
    refine Ev_if (fun h0 => ?_) (fun h0 => ?_)
    · have : endB q = false := by unfold endB; rw [if_pos (by omega)]
      rw [this]; exact Ev.now _
    · have hw := hw.resolve_right (by omega)
      rw [hw]
      refine Ev_if (fun _ => Ev_if (fun _ => Ev_if (fun hz => ?_) (fun hz => ?_)) (fun h => by omega)) (fun h => by omega)
      · have : endB q = false := by unfold endB; rw [if_neg (by omega)]; simp [hz]
        rw [this]; exact Ev.now _
      · have : endB q = true := by unfold endB; rw [if_neg (by omega)]; simp [hz]
        rw [this, Bool.true_and]
        refine ih (i + 1) (by omega) (by omega) ?_
        rw [ha, e2, this, Bool.true_and]
theorem Pure_holds : Pure := by
  intro c up hc
  have key : ∃ r1 r2, Ev (fun z => spec_VariationsFar.f z c up) (r1, r2) ∧ Ev (fun z => impl_VariationsFar.f z c up) (r1, r2) := by
    cases hg : listsB c with
    | false =>
      refine ⟨0, false, ?_, ?_⟩
      · refine Ev.bind (stLists_ev c (by omega)) ?_; rw [hg]; exact Ev_if (fun h => by cases h) (fun _ => Ev.now _)
      · refine Ev.bind (areLists_ev c (by omega)) ?_; rw [hg]; exact Ev_if (fun h => by cases h) (fun _ => Ev.now _)
    | true =>
      obtain ⟨hp, h1, h9⟩ := lists_part c hg
      have hp2 : ∀ q ∈ c, q.length ≤ 1000000 := fun q hq => by have := (hp q hq).2; omega
      cases he : c.all endB with
      | false =>
        refine ⟨0, false, ?_, ?_⟩
        · refine Ev.bind (stLists_ev c (by omega)) ?_; rw [hg]
          refine Ev_if (fun _ => ?_) (fun h => absurd rfl h)
          have := farEnds_l0 c up (by omega) hp2 0 (fun h => by rw [he] at h; cases h) c.length 0 (by omega) (by omega) rfl
          rw [List.drop_zero, he] at this; exact this
        · refine Ev.bind (areLists_ev c (by omega)) ?_; rw [hg]
          refine Ev_if (fun _ => Ev_bindS (anyFar c hp2) ?_) (fun h => absurd rfl h); rw [he]
          exact Ev_if (fun _ => Ev.now _) (fun h => absurd rfl h)
      | true =>
        have hn : ∀ q ∈ c, 0 < q.length ∧ q.length ≤ 1000000 := fun q hq => ⟨by
          have h := List.all_eq_true.mp he q hq
          unfold endB at h
          by_cases h0 : q.length = 0
          · rw [if_pos h0] at h; cases h
          · omega, hp2 q hq⟩
        obtain ⟨r, g1, g2, _, _⟩ := far_ev up c (by omega) hn
        refine ⟨r, true, ?_, ?_⟩
        · refine Ev.bind (stLists_ev c (by omega)) ?_; rw [hg]
          refine Ev_if (fun _ => ?_) (fun h => absurd rfl h)
          have := farEnds_l0 c up (by omega) hp2 r (fun _ => g1) c.length 0 (by omega) (by omega) rfl
          rw [List.drop_zero, he] at this; exact this
        · refine Ev.bind (areLists_ev c (by omega)) ?_; rw [hg]
          refine Ev_if (fun _ => Ev_bindS (anyFar c hp2) ?_) (fun h => absurd rfl h); rw [he]
          exact Ev_if (fun h => by cases h) (fun _ => Ev.bind g2 (Ev.now _))
  obtain ⟨r1, r2, h1, h2⟩ := key
  obtain ⟨ks, ki, h, h'⟩ := Ev_both h1 h2
  exact ⟨ks, ki, r1, r2, h, h'⟩
end Go.Proofs.Ytolacpnhndbalaa.QVar
