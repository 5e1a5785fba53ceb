import Derived.Test.YtalcohajbcijlaaZValueAtSq
import Derived.Test.YtalcohajbcijlaaZValueAtQValueAtx
namespace Go.Proofs.Ytalcohajbcijlaa.QValueAt
open Go.RowKit Go.Proofs.YtalcohajbcijlaaW.PrintWords Go.Proofs.YtalcohajbcijlaaW.PrintLast Go.Proofs.YtalcohajbcijlaaW.PrintMore
set_option linter.unusedVariables false
set_option linter.unusedSimpArgs false
section
variable {P : Program} {ops : Array Oper} {rest : List Oper} {o : Oper} {a : Act} {Q : Exit → Act → World → Prop} {α : Type}
end
theorem cut_room {P : Program} (t e : TypeId) (kh : IntKind) {i : TypeInfo} (ht : P.underlying t = some (.slice e)) (hi : P.info? e = some i) (A : Option Addr) (n c : Nat) (j : Int) (h0 : 0 ≤ j) (hc : j ≤ c) :
 ∀ W : World, (Instr.slice t (.slice A n c) none (some (.int kh j)) none).run P W = .ok (.slice A j.toNat c) W := by
 intro W
 have hel : P.elem t = e := by simp [Program.elem, ht]
 have hu : P.underlying t = some (.slice (P.elem t)) := by rw [hel]; exact ht
 have ha : (A.map fun x => x.add 0) = A := by cases A <;> simp [Addr.add]
 rw [run_slice_h W t A n c hu kh j h0 hc, hel]
 simp [sizeOf, typeInfo, hi, sliced, Result.andThen, ha]
section
variable {α : Type} {d : Kd α}
theorem C_begin {w : World} {A : Option Addr} {n : Nat} {xs ys : List α} (h : d.C w A n (xs ++ ys)) : d.C w A xs.length xs := by
 obtain ⟨h1, h2, h3⟩ := h
 simp only [List.length_append] at h1
 refine ⟨rfl, by omega, fun hp => ?_⟩
 obtain ⟨ad, e, hc⟩ := h3 (by omega)
 refine ⟨ad, e, fun j p hj => hc j p ?_⟩
 rw [List.getElem?_append_left (List.getElem?_eq_some_iff.1 hj).1]
 exact hj
end
theorem made {α : Type} {d : Kd α} {e : Nat} {v : Value} {xs : List α} {w W W' : World} {bp : Nat} (hp : bp ≤ W.heap.size) (hB : Below w.heap.size w W) (hb : Below W.heap.size W W') (ho : d.R e W' W.heap.size (fun _ => True) v xs) :
 ∃ a b, (bp ≤ a ∧ a ≤ b) ∧ b ≤ W'.heap.size ∧ d.R e W' w.heap.size (fun k => a ≤ k ∧ k < b) v xs ∧ Below w.heap.size w W' :=
 ⟨W.heap.size, W'.heap.size, ⟨hp, hb.size⟩, Nat.le_refl _, Kd.R_lower (Kd.R_mono (Kd.R_bound ho) (fun k hk => ⟨hk.2.1, hk.2.2.1⟩)) hB.size, below_step hB hb⟩
theorem still {w W W' : World} {bp : Nat} (hp : bp ≤ W.heap.size) (hB : Below w.heap.size w W) (hb : Below W.heap.size W W') : bp ≤ W'.heap.size ∧ Below w.heap.size w W' := ⟨Nat.le_trans hp hb.size, below_step hB hb⟩
def room (n : Nat) : Nat := if n % 6 = 5 then 0 else if n % 3 = 0 then 1 else n
theorem room_le (n : Nat) : room n ≤ n + 1 := by unfold room; split <;> (try split) <;> omega
theorem roomBehind_eq (n : Nat) : laws_roomBehind.f (n : Int) = some (room n : Int) := by
 have h6 : Int.tmod (n : Int) 6 = ((n % 6 : Nat) : Int) := by rw [Int.tmod_eq_emod_of_nonneg (by omega)]; rfl
 have h3 : Int.tmod (n : Int) 3 = ((n % 3 : Nat) : Int) := by rw [Int.tmod_eq_emod_of_nonneg (by omega)]; rfl
 unfold laws_roomBehind.f room
 rw [h6, h3]
 by_cases a : n % 6 = 5
 ·rw [if_pos (by omega), if_pos a]; rfl
 ·rw [if_neg (by omega), if_neg a]
  by_cases b : n % 3 = 0
  ·rw [if_pos (by omega), if_pos b]; rfl
  ·rw [if_neg (by omega), if_neg b]
theorem padr {α : Type} {d : Kd α} {e : Nat} {w : World} {b : Nat} {ok : Nat → Prop} {A : Option Addr} {c : Nat} {q P : List α} (hp : ∃ f, P = q ++ f) (h : d.R e w b ok (.slice A P.length c) P) : d.C w A q.length q := by
 obtain ⟨f, rfl⟩ := hp
 exact C_begin (Kd.R_reads' h).2.2
theorem padl {α : Type} {q P : List α} {c : Nat} (hp : ∃ f, P = q ++ f) (h : P.length ≤ c) : q.length ≤ c := by
 obtain ⟨f, rfl⟩ := hp
 simp at h; omega
mutual
def laws_toTermSW.j0 : Nat → List (S109) → Bool → Option ((List (S107)))
 | 0, _, _ => none
 | k + 1, x0, x13 => if x13 = true then (none) else ((laws_roomBehind.f (x0.length : Int)).bind fun t283 => (if 0 ≤ (wrap64 ((x0.length : Int) + t283)) then (if (wrap64 ((x0.length : Int) + t283) : Int).toNat ≤ 8796093022208 then (laws_toTermSW.l0 k x0 (List.replicate (wrap64 ((x0.length : Int) + t283) : Int).toNat z107) 0) else (none)) else (none)))
def laws_toTermSW.l0 : Nat → List (S109) → List (S107) → Int → Option ((List (S107)))
 | 0, _, _, _ => none
 | k + 1, x0, x5, x6 => if x6 < (x0.length : Int) then (if 0 ≤ x6 then ((laws_toTerm.f ((rd_T109 x0 x6).f0) ((rd_T109 x0 x6).f1) ((rd_T109 x0 x6).f2) ((rd_T109 x0 x6).f3)).bind fun bt288 => (if x6 < (x5.length : Int) then (laws_toTermSW.l0 k x0 (x5.set (x6 : Int).toNat (⟨bt288.1, bt288.2.1, bt288.2.2.1, bt288.2.2.2⟩ : S107)) (wrap64 (x6 + 1))) else (none))) else (none)) else (laws_toTermSW.l1 k x0 x5 (x0.length : Int))
def laws_toTermSW.l1 : Nat → List (S109) → List (S107) → Int → Option ((List (S107)))
 | 0, _, _, _ => none
 | k + 1, x0, x5, x7 => if x7 < (x5.length : Int) then ((laws_fillerTerm.f).bind fun bt293 => (if 0 ≤ x7 then (laws_toTermSW.l1 k x0 (x5.set (x7 : Int).toNat (⟨bt293.1, bt293.2.1, bt293.2.2.1, bt293.2.2.2⟩ : S107)) (wrap64 (x7 + 1))) else (none))) else (if 0 ≤ (x0.length : Int) then (if (x0.length : Int) ≤ (x5.length : Int) then (some x5) else (none)) else (none))
end
def laws_toTermSW.f (k : Nat) (l0 : List (S109)) (a1 : Bool) : Option ((List (S107))) := if a1 = true then (laws_toTermSW.j0 k l0 ((l0.length : Int) == 0)) else (laws_toTermSW.j0 k l0 false)
set_option maxHeartbeats 8000000 in
set_option maxRecDepth 100000 in
theorem laws_toTermSW.calls (k : Nat) (A0 : Option Addr) (c0 : Nat) (l0 : List (S109)) (a1 : Bool) (r : List (S107)) (w : World) (hr0 : Kd.C k109 w A0 l0.length l0) (hc0 : l0.length ≤ c0) (h : laws_toTermSW.f k l0 a1 = some r) :
 Calls Try.prog 32 #[.slice A0 l0.length c0, .bool a1] w fun e w' => ∃ (Ac_ : Option Addr) (cc_ : Nat), e = .returned (.slice Ac_ l0.length cc_) ∧ Kd.R k107 107 w' w.heap.size (fun _ => True) (.slice Ac_ r.length cc_) r ∧ Below w.heap.size w w' := by
 have hu109 := Try.underlying109
 have hu107 := Try.underlying107
 have HR0 := Aside0.mk hr0
 have HC0 := Aside0.mk hc0
 clear hr0 hc0
 have HB := Aside0.mk (Below.refl w.heap.size w)
 have H : (if a1 = true then (laws_toTermSW.j0 k l0 ((l0.length : Int) == 0)) else (laws_toTermSW.j0 k l0 false)) = some r := h
 clear h
 have HC3 := Aside0.mk H
 clear H
 go_enter Try.func32, Try.ntmps32
 go_upto_region 1 with (fail)
 go_cut [13] (fun v13 wc => ∃ (kq : Nat) (x13_2 : Bool), v13 = .bool x13_2 ∧ Aside0 (laws_toTermSW.j0 kq l0 x13_2 = some r) ∧ Aside0 (kq ≤ k) ∧ Aside0 (Below w.heap.size w wc))
 case first =>
  have H := HC3.out
  clear HC3
  by_cases c4 : a1 = true
  ·subst c4
   rw [if_pos rfl] at H
   have H' := Aside0.mk H
   clear H
   go_wp2
   go_meet
   case rel => exact ⟨_, (((l0.length : Int) == 0)), sr, H', ⟨by first | omega | exact Nat.le_refl _⟩, ⟨bz⟩⟩
  ·replace c4 := Bool.eq_false_iff.mpr c4
   subst c4
   rw [if_neg (show ¬ (false = true) by decide)] at H
   have H' := Aside0.mk H
   clear H
   go_wp2
   go_meet
   case rel => exact ⟨_, (false), sr, H', ⟨by first | omega | exact Nat.le_refl _⟩, ⟨bz⟩⟩
 case rest =>
  clear HC3
  try clear p2; try clear c3; try clear c4
  obtain ⟨kq, x13_2, rfl, HA, HJ2, HB⟩ := hcut
  cases kq with
  | zero => exact absurd HA.out (by simp [laws_toTermSW.j0])
  | succ kj2 =>
   have H := HA.out
   clear HA
   simp only [laws_toTermSW.j0] at H
   by_cases c5 : x13_2 = true
   ·subst c5
    have H1 : none = some r := by rw [if_pos rfl] at H; exact H
    exact absurd H1 (by simp)
   ·replace c5 := Bool.eq_false_iff.mpr c5
    subst c5
    rw [if_neg (show ¬ (false = true) by decide)] at H
    obtain ⟨t283, A6, H⟩ := bi H
    obtain ⟨ji7, hji7⟩ : ∃ j_ : Int, (wrap64 ((l0.length : Int) + t283)) = j_ := ⟨_, rfl⟩
    first | rw [hji7] at H | simp only [hji7] at H
    (try rw [hji7] at A6)
    have hji7w : (IntKind.i64.wrap ((l0.length : Int) + t283)) = ji7 := (i64_w _).trans hji7
    by_cases c8 : 0 ≤ (ji7)
    ·rw [if_pos c8] at H
     have c8b0 := eq_true c8
     have c8b1 : decide (0 ≤ (ji7)) = true := decide_eq_true c8
     clear c8
     by_cases c9 : (ji7 : Int).toNat ≤ 8796093022208
     ·rw [if_pos c9] at H
      have c9b0 := eq_true c9
      have c9b1 : decide ((ji7 : Int).toNat ≤ 8796093022208) = true := decide_eq_true c9
      clear c9
      obtain ⟨y284, hy284⟩ : ∃ y_ : List (S107), y_ = (List.replicate (ji7 : Int).toNat z107) := ⟨_, rfl⟩
      replace H : (laws_toTermSW.l0 kj2 l0 y284 0) = some r := by first | (rw [hy284]; with_reducible exact H) | (have H2_ := (Option.bind_some _ _).symm.trans H; rw [hy284]; with_reducible exact H2_) | (have H2_ := (Option.bind_some _ _).symm.trans H; with_reducible exact H2_) | with_reducible exact H | (rw [hy284]; exact H) | exact H
      have Ny284 := Aside0.mk hy284
      clear hy284
      have H' := Aside0.mk H
      clear H
      go_wp2_with (first | ((with_reducible refine gate_callee (f := 55) rfl ?_); refine goesL_ (some 18) rfl rfl Try.func55 kf rfl #[.int .i64 (l0.length : Int)] rfl sm ?_; (with_reducible refine (laws_roomBehind.calls (l0.length : Int) t283 _ A6.out).mono ?_); rintro e w' ⟨rfl, ⟨nd, rfl⟩⟩; refine ⟨_, rfl, ?_⟩) | ((with_reducible refine gate_dst (N := 20) rfl ?_); (try (refine gate_guard (by rfl) ?_; dsimp only)); refine Kd.R_make k107 _ 107 rfl (N := 20) rfl 53 _ _ rfl ji7 rfl rfl Try.underlying53 (.agg #[(.int .i64 0), (.int .i64 0), (.int .i64 0), (.int .i64 0)]) 32 info107 rfl (by decide) (by omega) z107 (ok := fun _ => True) (okp := fun _ => True) (k107_mkM _ _ _ z107 ) (fun _ hk => hk) trivial (of_decide_eq_true am) (Nat.le_trans (Nat.mul_le_mul_right _ (of_decide_eq_true am : ji7.toNat ≤ 8796093022208)) (by omega)) (Below.refl _ _) (Nat.le_refl _) ?_; intro v285 w10 ho11 hb hg_ hnew_; clear hg_ hnew_; (first | rw [← Ny284.out] at ho11 | (simp only [Int.reduceToNat] at ho11; rw [← Ny284.out] at ho11)); have n0_ := Aside0.mk (Kd.R_lower ho11 (below_size bz)); have n1_ := Aside0.mk (below_step bz hb); clear HB; have HO286 := n0_; have HB := n1_; clear n0_ n1_; clear hb ho11))
      go_loopg [6] kj2 (fun kq v6 w' => ∃ (x5_2 : List (S107)) (x6_2 : Int), v6 = .int .i64 x6_2 ∧ Aside0 (laws_toTermSW.l0 kq l0 x5_2 x6_2 = some r) ∧ Aside0 (kq ≤ kj2) ∧ Aside0 (Kd.R k107 107 w' w.heap.size (fun _ => True) v285 x5_2) ∧ Aside0 (Below w.heap.size w w'))
      case atStart => exact ⟨(y284), (0), sr, H', ⟨Nat.le_refl _⟩, ⟨kr HO286⟩, ⟨bz⟩⟩
      case round =>
       clear H'
       try clear p2; try clear c3; try clear c4; try clear c5; try clear p6; try clear c8; try clear c8b0; try clear c8b1; try clear c9; try clear c9b0; try clear c9b1; try clear p2
       obtain ⟨x5_2, x6_2, rfl, HA, HK2, HO_5, HB⟩ := hrel
       cases gk with
       | zero => exact absurd HA.out (by simp [laws_toTermSW.l0])
       | succ k2 =>
        have H := HA.out
        clear HA
        simp only [laws_toTermSW.l0] at H
        by_cases c12 : x6_2 < (l0.length : Int)
        ·rw [if_pos c12] at H
         have c12b0 : decide (x6_2 < (l0.length : Int)) = true := decide_eq_true c12
         clear c12
         by_cases c13 : 0 ≤ x6_2
         ·rw [if_pos c13] at H
          have c13b0 : decide (0 ≤ x6_2) = true := decide_eq_true c13
          clear c13
          obtain ⟨⟨t288, t289, t290, t291⟩, A14, H⟩ := bi H
          try dsimp only at H
          by_cases c15 : x6_2 < (x5_2.length : Int)
          ·rw [if_pos c15] at H
           have c15b0 : decide (x6_2 < (x5_2.length : Int)) = true := decide_eq_true c15
           clear c15
           obtain ⟨y292, hy292⟩ : ∃ y_ : List (S107), y_ = (x5_2.set (x6_2 : Int).toNat (⟨t288, t289, t290, t291⟩ : S107)) := ⟨_, rfl⟩
           replace H : (laws_toTermSW.l0 k2 l0 y292 (wrap64 (x6_2 + 1))) = some r := by first | (rw [hy292]; with_reducible exact H) | (have H2_ := (Option.bind_some _ _).symm.trans H; rw [hy292]; with_reducible exact H2_) | (have H2_ := (Option.bind_some _ _).symm.trans H; with_reducible exact H2_) | with_reducible exact H | (rw [hy292]; exact H) | exact H
           have Ny292 := Aside0.mk hy292
           clear hy292
           have H' := Aside0.mk H
           clear H
           have p287 : 0 ≤ (x6_2 : Int) := of_decide_eq_true am
           have q287 : x6_2 < (l0.length : Int) := of_decide_eq_true am
           obtain ⟨ad287, e287, hx287_0, hx287_1, hx287_2, hx287_3⟩ := at_T109 HR0.out x6_2 p287 q287
           cases e287
           replace hx287_0 := (HB.out.cell (World.block_lt_of_cell? w _ hx287_0)).trans hx287_0
           replace hx287_1 := (HB.out.cell (World.block_lt_of_cell? w _ hx287_1)).trans hx287_1
           replace hx287_2 := (HB.out.cell (World.block_lt_of_cell? w _ hx287_2)).trans hx287_2
           replace hx287_3 := (HB.out.cell (World.block_lt_of_cell? w _ hx287_3)).trans hx287_3
           replace p287 := eq_true p287
           replace q287 := eq_true q287
           go_wp2_with (first | ((with_reducible refine gate_callee (f := 78) rfl ?_); refine goesL_ (some 33) rfl rfl Try.func78 kf rfl #[.agg #[.int .i64 ((rd_T109 l0 x6_2).f0), .int .i64 ((rd_T109 l0 x6_2).f1), .int .i64 ((rd_T109 l0 x6_2).f2), .int .i64 ((rd_T109 l0 x6_2).f3)]] rfl sm ?_; (with_reducible refine (laws_toTerm.calls ((rd_T109 l0 x6_2).f0) ((rd_T109 l0 x6_2).f1) ((rd_T109 l0 x6_2).f2) ((rd_T109 l0 x6_2).f3) t288 t289 t290 t291 _ A14.out).mono ?_); rintro e w17 ⟨rfl, hb⟩; refine ⟨_, rfl, ?_⟩; have n0_ := Aside0.mk (Kd.R_below (kr HO_5) hb); have n1_ := Aside0.mk (below_step bz hb); clear HO_5; clear HB; have HO_5 := n0_; have HB := n1_; clear n0_ n1_; (try clear hb); (try clear hb2); (try clear hk); (try clear hi); have p16 : 0 ≤ (x6_2 : Int) := of_decide_eq_true am; have q16 : (x6_2 : Int) < ((x5_2.length : Int) : Int) := of_decide_eq_true am; obtain ⟨go16, co16, eo16, gb16, gl16, cl16, HG16⟩ := Kd.R_form HO_5.out (by omega); (first | cases eo16 | (injection eo16 with ea_ en_ ec_; (first | subst ea_ | (injection ea_ with ea_; subst ea_)); subst ec_; clear en_)); have GB16 := Aside0.mk gb16; have GG16 := Aside0.mk HG16; clear gb16 gl16 HG16; obtain ⟨ce16, hcl16, hM16, hcc16, hfr16⟩ := Kd.R_elem HO_5.out z107 (x6_2 : Int) p16 q16; obtain rfl := k107_openM hM16; have hx16_0 : w17.cell? ⟨go16, (x6_2 : Int).toNat * 4, none⟩ = some (.int .i64 ((rd_T107 x5_2 x6_2).f0)) := hcc16 0 _ rfl; have hx16_1 : w17.cell? ⟨go16, (x6_2 : Int).toNat * 4 + 1, none⟩ = some (.int .i64 ((rd_T107 x5_2 x6_2).f1)) := hcc16 1 _ rfl; have hx16_2 : w17.cell? ⟨go16, (x6_2 : Int).toNat * 4 + 2, none⟩ = some (.int .i64 ((rd_T107 x5_2 x6_2).f2)) := hcc16 2 _ rfl; have hx16_3 : w17.cell? ⟨go16, (x6_2 : Int).toNat * 4 + 3, none⟩ = some (.int .i64 ((rd_T107 x5_2 x6_2).f3)) := hcc16 3 _ rfl; have hf16_0 : w17.frozen? ⟨go16, (x6_2 : Int).toNat * 4, none⟩ = false := hfr16 0; have hf16_1 : w17.frozen? ⟨go16, (x6_2 : Int).toNat * 4 + 1, none⟩ = false := hfr16 1; have hf16_2 : w17.frozen? ⟨go16, (x6_2 : Int).toNat * 4 + 2, none⟩ = false := hfr16 2; have hf16_3 : w17.frozen? ⟨go16, (x6_2 : Int).toNat * 4 + 3, none⟩ = false := hfr16 3; clear hcl16 hcc16 hfr16 hM16; replace p16 := eq_true p16; replace q16 := eq_true q16; have HX18 := Aside0.mk (show Kd.R k107 107 w17 w.heap.size (fun _ => True) (.slice (some ⟨go16, 0, none⟩) x5_2.length co16) x5_2 from (kr HO_5)); obtain ⟨ce18, hcl18, hM18, hcc18, hfr18⟩ := Kd.R_elem HX18.out z107 (x6_2 : Int) (of_decide_eq_true am) (by have h_ : (x6_2 : Int) < ((x5_2.length : Int) : Int) := of_decide_eq_true am; first | exact h_ | (have e_ := (Kd.R_reads' HO_5.out).1; omega) | simpa using h_); obtain rfl := k107_openM hM18; have HP18 := Kd.R_seg HX18.out (x6_2 : Int) (of_decide_eq_true am) (by have h_ : (x6_2 : Int) < ((x5_2.length : Int) : Int) := of_decide_eq_true am; first | exact h_ | (have e_ := (Kd.R_reads' HO_5.out).1; omega) | simpa using h_) (seg := [.int .i64 t288, .int .i64 t289, .int .i64 t290, .int .i64 t291]) (j := 0) hcl18 hcc18 (show 4 ≤ 4 from by decide) (x' := (⟨t288, t289, t290, t291⟩ : S107)) (k107_mkM _ _ _ (⟨t288, t289, t290, t291⟩ : S107) ) (fun _ hk => hk); have hx18_0 := hcc18 0 _ rfl; (try simp only [show (k107).sz = 4 from rfl, Nat.mul_one, Nat.add_zero] at hx18_0); have hf18_0 := hfr18 0; (try simp only [show (k107).sz = 4 from rfl, Nat.mul_one, Nat.add_zero] at hf18_0); have hx18_1 := hcc18 1 _ rfl; (try simp only [show (k107).sz = 4 from rfl, Nat.mul_one, Nat.add_zero] at hx18_1); have hf18_1 := hfr18 1; (try simp only [show (k107).sz = 4 from rfl, Nat.mul_one, Nat.add_zero] at hf18_1); have hx18_2 := hcc18 2 _ rfl; (try simp only [show (k107).sz = 4 from rfl, Nat.mul_one, Nat.add_zero] at hx18_2); have hf18_2 := hfr18 2; (try simp only [show (k107).sz = 4 from rfl, Nat.mul_one, Nat.add_zero] at hf18_2); have hx18_3 := hcc18 3 _ rfl; (try simp only [show (k107).sz = 4 from rfl, Nat.mul_one, Nat.add_zero] at hx18_3); have hf18_3 := hfr18 3; (try simp only [show (k107).sz = 4 from rfl, Nat.mul_one, Nat.add_zero] at hf18_3); clear hcl18 hcc18 hfr18 hM18) | ((with_reducible refine gate_store (t := 107) (p := 34) rfl ?_); refine store_event (t := 107) (p := 34) (v := ?vo_w19) (w1 := ((((w17.setCell ⟨go16, (x6_2 : Int).toNat * 4, none⟩ (.int .i64 t288)).setCell ⟨go16, (x6_2 : Int).toNat * 4 + 1, none⟩ (.int .i64 t289)).setCell ⟨go16, (x6_2 : Int).toNat * 4 + 2, none⟩ (.int .i64 t290)).setCell ⟨go16, (x6_2 : Int).toNat * 4 + 3, none⟩ (.int .i64 t291))) ?hg ?ho ?hn ?hr ?_; (case ho => rfl); (case hg => rfl); (case hn => rfl); (case hr => first | (go_simp; done) | (go_simp; rfl)); intro w19 hw; have hg : w17.grownBy w19 (some go16) := (by rw [hw]; exact HP18.2); have hp_ : Kd.R k107 107 w19 w.heap.size (fun _ => True) (.slice (some ⟨go16, 0, none⟩) x5_2.length co16) y292 := (by rw [hw, Ny292.out]; exact HP18.1); clear HP18; have n0_ := Aside0.mk (hp_); have n1_ := Aside0.mk ((by rw [hw]; exact below_set (below_set (below_set (below_set (HB.out) GB16.out) GB16.out) GB16.out) GB16.out : Below w.heap.size w w19)); clear HO_5; clear HB; have HO_5 := n0_; have HB := n1_; clear n0_ n1_; clear hg hw hp_))
           go_roundg k2
           case measure => have := HJ2.out; have := HK2.out; omega
           case rel => exact ⟨(y292), (wrap64 (x6_2 + 1)), sr, H', ⟨by have := HJ2.out; have := HK2.out; omega⟩, ⟨kr HO_5⟩, ⟨bz⟩⟩
          ·rw [if_neg c15] at H
           exact absurd H (by simp)
         ·rw [if_neg c13] at H
          exact absurd H (by simp)
        ·rw [if_neg c12] at H
         have c12b0 : decide (x6_2 < (l0.length : Int)) = false := decide_eq_false c12
         clear c12
         have H' := Aside0.mk H
         clear H
         go_wp2
         go_loopg [7] k2 (fun kq v7 w' => ∃ (x5_3 : List (S107)) (x7_3 : Int), v7 = .int .i64 x7_3 ∧ Aside0 (laws_toTermSW.l1 kq l0 x5_3 x7_3 = some r) ∧ Aside0 (kq ≤ k2) ∧ Aside0 (Kd.R k107 107 w' w.heap.size (fun _ => True) v285 x5_3) ∧ Aside0 (Below w.heap.size w w'))
         case atStart => exact ⟨(x5_2), ((l0.length : Int)), sr, H', ⟨Nat.le_refl _⟩, ⟨kr HO_5⟩, ⟨bz⟩⟩
         case round =>
          clear H'
          try clear c1; try clear p1; try clear q1; try clear hx1; try clear p2; try clear q2; try clear hx2; try clear c3; try clear c4; try clear c5; try clear p6; try clear c7; try clear c8; try clear c8b0; try clear c8b1; try clear c9; try clear c9b0; try clear c9b1; try clear c12; try clear c12b0; try clear c13; try clear c13b0; try clear c15; try clear c15b0; try clear c16; try clear p16; try clear q16; try clear hx16; try clear hf16; try clear c18; try clear hx18; try clear hf18; try clear hx16_0; try clear hx16_1; try clear hx16_2; try clear hx16_3; try clear hx18_0; try clear hx18_1; try clear hx18_2; try clear hx18_3; try clear hx287_0; try clear hx287_1; try clear hx287_2; try clear hx287_3; try clear p16; try clear p2; try clear p287; try clear p6; try clear q16; try clear q287
          obtain ⟨x5_3, x7_3, rfl, HA, HK3, HO_5, HB⟩ := hrel
          cases gk with
          | zero => exact absurd HA.out (by simp [laws_toTermSW.l1])
          | succ k3 =>
           have H := HA.out
           clear HA
           simp only [laws_toTermSW.l1] at H
           by_cases c20 : x7_3 < (x5_3.length : Int)
           ·rw [if_pos c20] at H
            have c20b0 : decide (x7_3 < (x5_3.length : Int)) = true := decide_eq_true c20
            clear c20
            obtain ⟨⟨t293, t294, t295, t296⟩, A21, H⟩ := bi H
            try dsimp only at H
            by_cases c22 : 0 ≤ x7_3
            ·rw [if_pos c22] at H
             have c22b0 : decide (0 ≤ x7_3) = true := decide_eq_true c22
             clear c22
             obtain ⟨y297, hy297⟩ : ∃ y_ : List (S107), y_ = (x5_3.set (x7_3 : Int).toNat (⟨t293, t294, t295, t296⟩ : S107)) := ⟨_, rfl⟩
             replace H : (laws_toTermSW.l1 k3 l0 y297 (wrap64 (x7_3 + 1))) = some r := by first | (rw [hy297]; with_reducible exact H) | (have H2_ := (Option.bind_some _ _).symm.trans H; rw [hy297]; with_reducible exact H2_) | (have H2_ := (Option.bind_some _ _).symm.trans H; with_reducible exact H2_) | with_reducible exact H | (rw [hy297]; exact H) | exact H
             have Ny297 := Aside0.mk hy297
             clear hy297
             have H' := Aside0.mk H
             clear H
             obtain ⟨Ao24, co24, eo24⟩ := Kd.R_slice HO_5.out
             subst eo24
             go_wp2_with (first | ((with_reducible refine gate_callee (f := 79) rfl ?_); refine goesL_ (some 45) rfl rfl Try.func79 kf rfl #[] rfl sm ?_; (with_reducible refine (laws_fillerTerm.calls  t293 t294 t295 t296 _ A21.out).mono ?_); rintro e w25 ⟨rfl, hb⟩; refine ⟨_, rfl, ?_⟩; have n0_ := Aside0.mk (Kd.R_below (kr HO_5) hb); have n1_ := Aside0.mk (below_step bz hb); clear HO_5; clear HB; have HO_5 := n0_; have HB := n1_; clear n0_ n1_; (try clear hb); (try clear hb2); (try clear hk); (try clear hi); have p23 : 0 ≤ (x7_3 : Int) := of_decide_eq_true am; have q23 : (x7_3 : Int) < ((x5_3.length : Int) : Int) := of_decide_eq_true am; obtain ⟨go23, co23, eo23, gb23, gl23, cl23, HG23⟩ := Kd.R_form HO_5.out (by omega); (first | cases eo23 | (injection eo23 with ea_ en_ ec_; (first | subst ea_ | (injection ea_ with ea_; subst ea_)); subst ec_; clear en_)); have GB23 := Aside0.mk gb23; have GG23 := Aside0.mk HG23; clear gb23 gl23 HG23; obtain ⟨ce23, hcl23, hM23, hcc23, hfr23⟩ := Kd.R_elem HO_5.out z107 (x7_3 : Int) p23 q23; obtain rfl := k107_openM hM23; have hx23_0 : w25.cell? ⟨go23, (x7_3 : Int).toNat * 4, none⟩ = some (.int .i64 ((rd_T107 x5_3 x7_3).f0)) := hcc23 0 _ rfl; have hx23_1 : w25.cell? ⟨go23, (x7_3 : Int).toNat * 4 + 1, none⟩ = some (.int .i64 ((rd_T107 x5_3 x7_3).f1)) := hcc23 1 _ rfl; have hx23_2 : w25.cell? ⟨go23, (x7_3 : Int).toNat * 4 + 2, none⟩ = some (.int .i64 ((rd_T107 x5_3 x7_3).f2)) := hcc23 2 _ rfl; have hx23_3 : w25.cell? ⟨go23, (x7_3 : Int).toNat * 4 + 3, none⟩ = some (.int .i64 ((rd_T107 x5_3 x7_3).f3)) := hcc23 3 _ rfl; have hf23_0 : w25.frozen? ⟨go23, (x7_3 : Int).toNat * 4, none⟩ = false := hfr23 0; have hf23_1 : w25.frozen? ⟨go23, (x7_3 : Int).toNat * 4 + 1, none⟩ = false := hfr23 1; have hf23_2 : w25.frozen? ⟨go23, (x7_3 : Int).toNat * 4 + 2, none⟩ = false := hfr23 2; have hf23_3 : w25.frozen? ⟨go23, (x7_3 : Int).toNat * 4 + 3, none⟩ = false := hfr23 3; clear hcl23 hcc23 hfr23 hM23; replace p23 := eq_true p23; replace q23 := eq_true q23; have HX26 := Aside0.mk (show Kd.R k107 107 w25 w.heap.size (fun _ => True) (.slice (some ⟨go23, 0, none⟩) x5_3.length co24) x5_3 from (kr HO_5)); obtain ⟨ce26, hcl26, hM26, hcc26, hfr26⟩ := Kd.R_elem HX26.out z107 (x7_3 : Int) (of_decide_eq_true am) (by have h_ : (x7_3 : Int) < ((x5_3.length : Int) : Int) := of_decide_eq_true am; first | exact h_ | (have e_ := (Kd.R_reads' HO_5.out).1; omega) | simpa using h_); obtain rfl := k107_openM hM26; have HP26 := Kd.R_seg HX26.out (x7_3 : Int) (of_decide_eq_true am) (by have h_ : (x7_3 : Int) < ((x5_3.length : Int) : Int) := of_decide_eq_true am; first | exact h_ | (have e_ := (Kd.R_reads' HO_5.out).1; omega) | simpa using h_) (seg := [.int .i64 t293, .int .i64 t294, .int .i64 t295, .int .i64 t296]) (j := 0) hcl26 hcc26 (show 4 ≤ 4 from by decide) (x' := (⟨t293, t294, t295, t296⟩ : S107)) (k107_mkM _ _ _ (⟨t293, t294, t295, t296⟩ : S107) ) (fun _ hk => hk); have hx26_0 := hcc26 0 _ rfl; (try simp only [show (k107).sz = 4 from rfl, Nat.mul_one, Nat.add_zero] at hx26_0); have hf26_0 := hfr26 0; (try simp only [show (k107).sz = 4 from rfl, Nat.mul_one, Nat.add_zero] at hf26_0); have hx26_1 := hcc26 1 _ rfl; (try simp only [show (k107).sz = 4 from rfl, Nat.mul_one, Nat.add_zero] at hx26_1); have hf26_1 := hfr26 1; (try simp only [show (k107).sz = 4 from rfl, Nat.mul_one, Nat.add_zero] at hf26_1); have hx26_2 := hcc26 2 _ rfl; (try simp only [show (k107).sz = 4 from rfl, Nat.mul_one, Nat.add_zero] at hx26_2); have hf26_2 := hfr26 2; (try simp only [show (k107).sz = 4 from rfl, Nat.mul_one, Nat.add_zero] at hf26_2); have hx26_3 := hcc26 3 _ rfl; (try simp only [show (k107).sz = 4 from rfl, Nat.mul_one, Nat.add_zero] at hx26_3); have hf26_3 := hfr26 3; (try simp only [show (k107).sz = 4 from rfl, Nat.mul_one, Nat.add_zero] at hf26_3); clear hcl26 hcc26 hfr26 hM26) | ((with_reducible refine gate_store (t := 107) (p := 46) rfl ?_); refine store_event (t := 107) (p := 46) (v := ?vo_w27) (w1 := ((((w25.setCell ⟨go23, (x7_3 : Int).toNat * 4, none⟩ (.int .i64 t293)).setCell ⟨go23, (x7_3 : Int).toNat * 4 + 1, none⟩ (.int .i64 t294)).setCell ⟨go23, (x7_3 : Int).toNat * 4 + 2, none⟩ (.int .i64 t295)).setCell ⟨go23, (x7_3 : Int).toNat * 4 + 3, none⟩ (.int .i64 t296))) ?hg ?ho ?hn ?hr ?_; (case ho => rfl); (case hg => rfl); (case hn => rfl); (case hr => first | (go_simp; done) | (go_simp; rfl)); intro w27 hw; have hg : w25.grownBy w27 (some go23) := (by rw [hw]; exact HP26.2); have hp_ : Kd.R k107 107 w27 w.heap.size (fun _ => True) (.slice (some ⟨go23, 0, none⟩) x5_3.length co24) y297 := (by rw [hw, Ny297.out]; exact HP26.1); clear HP26; have n0_ := Aside0.mk (hp_); have n1_ := Aside0.mk ((by rw [hw]; exact below_set (below_set (below_set (below_set (HB.out) GB23.out) GB23.out) GB23.out) GB23.out : Below w.heap.size w w27)); clear HO_5; clear HB; have HO_5 := n0_; have HB := n1_; clear n0_ n1_; clear hg hw hp_))
             go_roundg k3
             case measure => have := HJ2.out; have := HK2.out; have := HK3.out; omega
             case rel => exact ⟨(y297), (wrap64 (x7_3 + 1)), sr, H', ⟨by have := HJ2.out; have := HK2.out; have := HK3.out; omega⟩, ⟨kr HO_5⟩, ⟨bz⟩⟩
            ·rw [if_neg c22] at H
             exact absurd H (by simp)
           ·rw [if_neg c20] at H
            have c20b0 : decide (x7_3 < (x5_3.length : Int)) = false := decide_eq_false c20
            clear c20
            by_cases c28 : 0 ≤ (l0.length : Int)
            ·rw [if_pos c28] at H
             have c28b0 := eq_true c28
             have c28b1 : decide (0 ≤ (l0.length : Int)) = true := decide_eq_true c28
             clear c28
             by_cases c29 : (l0.length : Int) ≤ (x5_3.length : Int)
             ·rw [if_pos c29] at H
              have c29b0 := eq_true c29
              have c29b1 : decide ((l0.length : Int) ≤ (x5_3.length : Int)) = true := decide_eq_true c29
              clear c29
              obtain ⟨y298, hy298⟩ : ∃ y_ : List (S107), y_ = (x5_3.take ((l0.length : Int) : Int).toNat) := ⟨_, rfl⟩
              have Ny298 := Aside0.mk hy298
              clear hy298
              have HR_ := Aside0.mk (Option.some.inj H)
              obtain ⟨Ao30, co30, eo30⟩ := Kd.R_slice HO_5.out
              subst eo30
              have q31 : ((l0.length : Int) : Int) ≤ ((x5_3.length : Int) : Int) := of_decide_eq_true am
              obtain ⟨i031, hi031, _, hsz31, _⟩ := info_parts info107
              have hcut31 := cut_to (P := Try.prog) 53 107 .i64 Try.underlying53 hi031 Ao30 x5_3.length co30 (l0.length : Int) (of_decide_eq_true am) q31 (Kd.R_reads' HO_5.out).2.1
              have hr31 := Kd.R_take (m := ((l0.length : Int) : Int).toNat) HO_5.out (by omega)
              have hy31 : y298.length = ((l0.length : Int) : Int).toNat := (by rw [Ny298.out, List.length_take]; omega)
              rw [← Ny298.out] at hr31
              rw [← hy31] at hr31 hcut31
              have HY_ : Aside0 (y298.length = l0.length) := ⟨by rw [hy31]; simp⟩
              clear hy31 hi031 hsz31
              have HO300 := Aside0.mk hr31
              clear hr31
              replace q31 := eq_true q31
              go_wp2
              go_ret
              exact ⟨Ao30, co30, by first | rfl | (rw [HY_.out]; done) | (simp [HY_.out]; done), by rw [← HR_.out]; (with_reducible repeat (first | apply Kd.R_alloc | apply Kd.R_drewN | apply Kd.R_drew)); first | exact HO_5.out | exact Kd.R_mono HO_5.out (fun _ _ => trivial), bz⟩
             ·rw [if_neg c29] at H
              exact absurd H (by simp)
            ·rw [if_neg c28] at H
             exact absurd H (by simp)
     ·rw [if_neg c9] at H
      exact absurd H (by simp)
    ·rw [if_neg c8] at H
     exact absurd H (by simp)
def cvTermS (x : S109) : S107 := ⟨x.f0, x.f1, x.f2, x.f3⟩
def fillTermS : S107 := ⟨-7000000000000000101, -7000000000000000101, -7000000000000000101, -7000000000000000101⟩
def padTermS (l : List S109) : List S107 := l.map cvTermS ++ List.replicate (room l.length) fillTermS
theorem padTermS_length (l : List S109) : (padTermS l).length = l.length + room l.length := by simp [padTermS]
theorem set_fillTermS (Q : List S107) (F i : Nat) (h : i < Q.length) (hF : Q.length ≤ F) : (Q.take i ++ List.replicate (F - i) z107).set i Q[i] = Q.take (i + 1) ++ List.replicate (F - (i + 1)) z107 := by
 have h1 : F - i = (F - (i + 1)) + 1 := by omega
 rw [h1, List.replicate_succ, List.set_append_right _ _ (by simp; omega)]
 have h2 : i - (Q.take i).length = 0 := by simp; omega
 rw [h2, List.set_cons_zero, List.take_succ_eq_append_getElem h, List.append_assoc]
 rfl
theorem set_fill2TermS (Q : List S107) (F i : Nat) (h : Q.length ≤ i) (hF : i < F) : (Q ++ (List.replicate (i - Q.length) fillTermS ++ List.replicate (F - i) z107)).set i fillTermS = Q ++ (List.replicate (i + 1 - Q.length) fillTermS ++ List.replicate (F - (i + 1)) z107) := by
 have h1 : F - i = (F - (i + 1)) + 1 := by omega
 rw [List.set_append_right _ _ h, List.set_append_right _ _ (by simp), h1, List.replicate_succ]
 have h2 : i - Q.length - (List.replicate (i - Q.length) fillTermS).length = 0 := by simp
 rw [h2, List.set_cons_zero]
 have h3 : i + 1 - Q.length = (i - Q.length) + 1 := by omega
 rw [h3, List.replicate_succ', List.append_assoc]
 rfl
theorem laws_toTermS_l1 (l : List S109) (F : Nat) (hF : F ≤ 3000000) (hlF : l.length ≤ F) (d : Nat) : ∀ (k i : Nat), l.length ≤ i → i ≤ F → F - i = d → d < k → laws_toTermS.l1 k l (l.map cvTermS ++ (List.replicate (i - l.length) fillTermS ++ List.replicate (F - i) z107)) (i : Int) = some (l.map cvTermS) := by
 induction d with
 | zero =>
  intro k i h0 h1 hd hk
  obtain ⟨k, rfl⟩ : ∃ m, k = m + 1 := ⟨k - 1, by omega⟩
  have e : i = F := by omega
  subst e
  simp only [laws_toTermS.l1]; rw [if_neg (by simp only [List.length_append, List.length_replicate, List.length_map]; omega), if_pos (by omega), if_pos (by simp only [List.length_append, List.length_replicate, List.length_map]; omega)]
  simp
 | succ d ih =>
  intro k i h0 h1 hd hk
  obtain ⟨k, rfl⟩ : ∃ m, k = m + 1 := ⟨k - 1, by omega⟩
  have hs := set_fill2TermS (l.map cvTermS) F i (by simpa using h0) (by omega)
  simp only [List.length_map] at hs
  simp only [laws_toTermS.l1]; rw [if_pos (by simp only [List.length_append, List.length_replicate, List.length_map]; omega), show laws_fillerTerm.f = some ((-7000000000000000101), (-7000000000000000101), (-7000000000000000101), (-7000000000000000101)) from rfl, Option.bind_some, if_pos (by omega), show wrap64 ((i : Int) + 1) = ((i + 1 : Nat) : Int) by unfold wrap64; omega, Int.toNat_natCast]
  change laws_toTermS.l1 k l ((l.map cvTermS ++ (List.replicate (i - l.length) fillTermS ++ List.replicate (F - i) z107)).set i fillTermS) _ = _
  rw [hs]
  exact ih k (i + 1) (by omega) (by omega) (by omega) (by omega)
theorem laws_toTermS_l0 (l : List S109) (F : Nat) (hF : F ≤ 3000000) (hlF : l.length ≤ F) (d : Nat) : ∀ (k i : Nat), i ≤ l.length → l.length - i = d → d + F + 2 < k → laws_toTermS.l0 k l ((l.map cvTermS).take i ++ List.replicate (F - i) z107) (i : Int) = some (l.map cvTermS) := by
 induction d with
 | zero =>
  intro k i h1 hd hk
  obtain ⟨k, rfl⟩ : ∃ m, k = m + 1 := ⟨k - 1, by omega⟩
  have e : i = l.length := by omega
  subst e
  simp only [laws_toTermS.l0]; rw [if_neg (by omega)]
  have h := laws_toTermS_l1 l F hF hlF (F - l.length) k l.length (Nat.le_refl _) hlF rfl (by omega)
  simp only [Nat.sub_self, List.replicate_zero, List.nil_append] at h
  rw [List.take_of_length_le (by simp)]
  exact h
 | succ d ih =>
  intro k i h1 hd hk
  obtain ⟨k, rfl⟩ : ∃ m, k = m + 1 := ⟨k - 1, by omega⟩
  have hi : i < l.length := by omega
  have hs := set_fillTermS (l.map cvTermS) F i (by simpa using hi) (by simpa using hlF)
  have hr : rd_T109 l (i : Int) = l[i] := by simp [rd_T109, hi]
  simp only [laws_toTermS.l0]; rw [if_pos (by omega), if_pos (by omega), hr, show laws_toTerm.f l[i].f0 l[i].f1 l[i].f2 l[i].f3 = some (l[i].f0, l[i].f1, l[i].f2, l[i].f3) from rfl, Option.bind_some, if_pos (by simp only [List.length_append, List.length_take, List.length_replicate, List.length_map]; omega), show wrap64 ((i : Int) + 1) = ((i + 1 : Nat) : Int) by unfold wrap64; omega, Int.toNat_natCast]
  have hc : (⟨l[i].f0, l[i].f1, l[i].f2, l[i].f3⟩ : S107) = (l.map cvTermS)[i]'(by simpa using hi) := by simp [cvTermS]
  change laws_toTermS.l0 k l (((l.map cvTermS).take i ++ List.replicate (F - i) z107).set i (⟨l[i].f0, l[i].f1, l[i].f2, l[i].f3⟩ : S107)) _ = _
  rw [hc, hs]
  exact ih k (i + 1) (by omega) (by omega) (by omega)
theorem laws_toTermS_j0 (l : List S109) (hn : l.length ≤ 1000000) (F : Nat) (hF : l.length + room l.length = F) (k : Nat) (hk : l.length + F + 2 < k) : laws_toTermS.j0 (k + 1) l false = some (l.map cvTermS) := by
 have hr := room_le l.length
 have hw : wrap64 ((l.length : Int) + (room l.length : Int)) = (F : Int) := by unfold wrap64; omega
 have h := laws_toTermS_l0 l F (by omega) (by omega) l.length k 0 (by omega) (by omega) hk
 simp only [laws_toTermS.j0]
 rw [if_neg (by decide), roomBehind_eq, Option.bind_some, hw, if_pos (by omega), Int.toNat_natCast, if_pos (by omega)]
 simpa using h
theorem laws_toTermSW_l1 (l : List S109) (F : Nat) (hF : F ≤ 3000000) (hlF : l.length ≤ F) (d : Nat) : ∀ (k i : Nat), l.length ≤ i → i ≤ F → F - i = d → d < k → laws_toTermSW.l1 k l (l.map cvTermS ++ (List.replicate (i - l.length) fillTermS ++ List.replicate (F - i) z107)) (i : Int) = some (l.map cvTermS ++ List.replicate (F - l.length) fillTermS) := by
 induction d with
 | zero =>
  intro k i h0 h1 hd hk
  obtain ⟨k, rfl⟩ : ∃ m, k = m + 1 := ⟨k - 1, by omega⟩
  have e : i = F := by omega
  subst e
  simp only [laws_toTermSW.l1]; rw [if_neg (by simp only [List.length_append, List.length_replicate, List.length_map]; omega), if_pos (by omega), if_pos (by simp only [List.length_append, List.length_replicate, List.length_map]; omega)]
  simp
 | succ d ih =>
  intro k i h0 h1 hd hk
  obtain ⟨k, rfl⟩ : ∃ m, k = m + 1 := ⟨k - 1, by omega⟩
  have hs := set_fill2TermS (l.map cvTermS) F i (by simpa using h0) (by omega)
  simp only [List.length_map] at hs
  simp only [laws_toTermSW.l1]; rw [if_pos (by simp only [List.length_append, List.length_replicate, List.length_map]; omega), show laws_fillerTerm.f = some ((-7000000000000000101), (-7000000000000000101), (-7000000000000000101), (-7000000000000000101)) from rfl, Option.bind_some, if_pos (by omega), show wrap64 ((i : Int) + 1) = ((i + 1 : Nat) : Int) by unfold wrap64; omega, Int.toNat_natCast]
  change laws_toTermSW.l1 k l ((l.map cvTermS ++ (List.replicate (i - l.length) fillTermS ++ List.replicate (F - i) z107)).set i fillTermS) _ = _
  rw [hs]
  exact ih k (i + 1) (by omega) (by omega) (by omega) (by omega)
theorem laws_toTermSW_l0 (l : List S109) (F : Nat) (hF : F ≤ 3000000) (hlF : l.length ≤ F) (d : Nat) : ∀ (k i : Nat), i ≤ l.length → l.length - i = d → d + F + 2 < k → laws_toTermSW.l0 k l ((l.map cvTermS).take i ++ List.replicate (F - i) z107) (i : Int) = some (l.map cvTermS ++ List.replicate (F - l.length) fillTermS) := by
 induction d with
 | zero =>
  intro k i h1 hd hk
  obtain ⟨k, rfl⟩ : ∃ m, k = m + 1 := ⟨k - 1, by omega⟩
  have e : i = l.length := by omega
  subst e
  simp only [laws_toTermSW.l0]; rw [if_neg (by omega)]
  have h := laws_toTermSW_l1 l F hF hlF (F - l.length) k l.length (Nat.le_refl _) hlF rfl (by omega)
  simp only [Nat.sub_self, List.replicate_zero, List.nil_append] at h
  rw [List.take_of_length_le (by simp)]
  exact h
 | succ d ih =>
  intro k i h1 hd hk
  obtain ⟨k, rfl⟩ : ∃ m, k = m + 1 := ⟨k - 1, by omega⟩
  have hi : i < l.length := by omega
  have hs := set_fillTermS (l.map cvTermS) F i (by simpa using hi) (by simpa using hlF)
  have hr : rd_T109 l (i : Int) = l[i] := by simp [rd_T109, hi]
  simp only [laws_toTermSW.l0]; rw [if_pos (by omega), if_pos (by omega), hr, show laws_toTerm.f l[i].f0 l[i].f1 l[i].f2 l[i].f3 = some (l[i].f0, l[i].f1, l[i].f2, l[i].f3) from rfl, Option.bind_some, if_pos (by simp only [List.length_append, List.length_take, List.length_replicate, List.length_map]; omega), show wrap64 ((i : Int) + 1) = ((i + 1 : Nat) : Int) by unfold wrap64; omega, Int.toNat_natCast]
  have hc : (⟨l[i].f0, l[i].f1, l[i].f2, l[i].f3⟩ : S107) = (l.map cvTermS)[i]'(by simpa using hi) := by simp [cvTermS]
  change laws_toTermSW.l0 k l (((l.map cvTermS).take i ++ List.replicate (F - i) z107).set i (⟨l[i].f0, l[i].f1, l[i].f2, l[i].f3⟩ : S107)) _ = _
  rw [hc, hs]
  exact ih k (i + 1) (by omega) (by omega) (by omega)
theorem laws_toTermSW_j0 (l : List S109) (hn : l.length ≤ 1000000) (F : Nat) (hF : l.length + room l.length = F) (k : Nat) (hk : l.length + F + 2 < k) : laws_toTermSW.j0 (k + 1) l false = some (l.map cvTermS ++ List.replicate (F - l.length) fillTermS) := by
 have hr := room_le l.length
 have hw : wrap64 ((l.length : Int) + (room l.length : Int)) = (F : Int) := by unfold wrap64; omega
 have h := laws_toTermSW_l0 l F (by omega) (by omega) l.length k 0 (by omega) (by omega) hk
 simp only [laws_toTermSW.j0]
 rw [if_neg (by decide), roomBehind_eq, Option.bind_some, hw, if_pos (by omega), Int.toNat_natCast, if_pos (by omega)]
 simpa using h
theorem toTermS_whole (l : List S109) (hn : l.length ≤ 1000000) : ∃ k, laws_toTermSW.f k l false = some (padTermS l) := by
 refine ⟨(l.length + (l.length + room l.length) + 3) + 1, ?_⟩
 unfold laws_toTermSW.f
 rw [if_neg (by decide), laws_toTermSW_j0 l hn _ rfl _ (by omega)]
 unfold padTermS
 rw [show l.length + room l.length - l.length = room l.length by omega]
theorem toTermS_bare (l : List S109) (hn : l.length ≤ 1000000) : ∃ k, laws_toTermS.f k l true = some (l.map cvTermS) := by
 refine ⟨(l.length + (l.length + room l.length) + 3) + 1, ?_⟩
 unfold laws_toTermS.f
 rw [if_pos rfl]
 by_cases h : l = []
 ·subst h
  rfl
 ·have e : ((l.length : Int) == 0) = false := by
   have : 0 < l.length := List.length_pos_iff.2 h
   simp only [beq_eq_false_iff_ne]; omega
  rw [e]
  exact laws_toTermS_j0 l hn _ rfl _ (by omega)
theorem eqTerm_self (a0 : Int) (a1 : Int) (a2 : Int) (a3 : Int) : laws_eqTerm.f a0 a1 a2 a3 a0 a1 a2 a3 = some true := by unfold laws_eqTerm.f; simp
theorem eqTermS_loop (l : List S107) (hn : l.length ≤ 1000000000) (d : Nat) : ∀ (k : Nat) (i : Nat), i ≤ l.length → l.length - i = d → d < k → laws_eqTermS.l0 k l l (i : Int) = some true := by
 induction d with
 | zero =>
  intro k i h0 hd hk
  obtain ⟨k, rfl⟩ : ∃ m, k = m + 1 := ⟨k - 1, by omega⟩
  simp only [laws_eqTermS.l0]; rw [if_neg (by omega)]
 | succ d ih =>
  intro k i h0 hd hk
  obtain ⟨k, rfl⟩ : ∃ m, k = m + 1 := ⟨k - 1, by omega⟩
  simp only [laws_eqTermS.l0]; rw [if_pos (by omega), if_pos (by omega), if_pos (by omega), eqTerm_self, Option.bind_some, if_pos rfl, show wrap64 ((i : Int) + 1) = ((i + 1 : Nat) : Int) by unfold wrap64; omega]
  exact ih k (i + 1) (by omega) (by omega) (by omega)
theorem eqTermS_self (l : List S107) (hn : l.length ≤ 1000000000) : laws_eqTermS.f (l.length + 1) l l = some true := by
 unfold laws_eqTermS.f
 rw [if_pos rfl]
 exact eqTermS_loop l hn l.length (l.length + 1) 0 (by omega) (by omega) (by omega)
def laws_intactTermS.T2 : Bool × List (List Nat × List Nat) := (true, [([], []), ([0], [0]), ([], []), ([2], [2]), ([1, 3], [1, 3]), ([4], [4]), ([5], [5]), ([5], [5]), ([6, 7, 5], [5, 6, 7]), ([5], [5]), ([5], [5]), ([9, 10, 5], [5, 9, 10]), ([8, 11, 5, 5], [5, 8, 11]), ([5, 12], [5, 12]), ([13, 12, 0, 1, 2, 3, 4, 5, 6, 7, 8, 9, 10, 11, 12, 13], [13])])
def laws_intactTermS.B2 : List Nat := [0, 1, 0, 4, 15, 31, 63, 63, 255, 63, 63, 1599, 4095, 8191, 16383]
theorem laws_intactTermS.tab2 : rtab .any (opsOf Try.f34 2) = laws_intactTermS.T2 := by kernel_rfl
theorem laws_intactTermS.bits2 : waitsOk laws_intactTermS.T2.2 laws_intactTermS.B2 = true := by kernel_rfl
set_option maxHeartbeats 8000000 in
set_option maxRecDepth 100000 in
theorem laws_intactTermS.pad (k : Nat) (A0 A1 : Option Addr) (c0 c1 n : Nat) (p : List S107) (w : World) (hr0 : Kd.C k107 w A0 p.length p) (hc0 : p.length ≤ c0) (hr1 : Kd.C k107 w A1 p.length p) (hc1 : p.length ≤ c1) (hp : p.length = n + room n) (hn : n ≤ 1000000) (he : laws_eqTermS.f k p p = some true) :
 Calls Try.prog 34 #[.slice A0 n c0, .slice A1 n c1] w fun e w' => e = .returned (.bool true) ∧ Below w.heap.size w w' := by
 have hmb := room_le n
 have HR132 := Aside0.mk hr0
 have HC132 := Aside0.mk hc0
 have HR136 := Aside0.mk hr1
 have HC136 := Aside0.mk hc1
 have HB := Aside0.mk (Below.refl w.heap.size w)
 have A3 := Aside0.mk (roomBehind_eq n)
 have A10 := Aside0.mk he
 obtain ⟨ji5, hji5⟩ : ∃ j_ : Int, (wrap64 ((n : Int) + (room n : Int))) = j_ := ⟨_, rfl⟩
 have hje : ji5 = (p.length : Int) := by rw [← hji5, hp]; unfold wrap64; omega
 have hji5w : (IntKind.i64.wrap ((n : Int) + (room n : Int))) = ji5 := (i64_w _).trans hji5
 have c4b0 : ((n : Int) == (n : Int)) = true := by simp
 have c4b1 : ((n : Int) != (n : Int)) = false := by simp
 have c4b2 : (n == n) = true := by simp
 have c6b0 : (0 ≤ ji5) = True := eq_true (by omega)
 have c6b1 : decide (0 ≤ ji5) = true := decide_eq_true (by omega)
 obtain ⟨i0_, hi0_, _, hsz0_, _⟩ := info_parts info107
 have hcut12 := cut_room (P := Try.prog) 53 107 .i64 Try.underlying53 hi0_ A0 n c0 ji5 (by omega) (by omega)
 have hcut13 := cut_room (P := Try.prog) 53 107 .i64 Try.underlying53 hi0_ A1 n c1 ji5 (by omega) (by omega)
 rw [show ji5.toNat = p.length by omega] at hcut12 hcut13
 clear hmb hje hr0 hc0 hr1 hc1 he hp hi0_ hsz0_ hn
 go_enter Try.func34, Try.ntmps34
 try go_wp2_with (first | ((with_reducible refine gate_callee (f := 55) rfl ?_); refine goesL_ (some 10) rfl rfl Try.func55 kf rfl #[.int .i64 (n : Int)] rfl sm ?_; (with_reducible refine (laws_roomBehind.calls (n : Int) (room n : Int) _ A3.out).mono ?_); rintro e w' ⟨rfl, ⟨nd, rfl⟩⟩; refine ⟨_, rfl, ?_⟩))
 refine start_ (n := 15) (S := fun w' => True) (ds := []) #[fF, fF, fF, fF, fF, fF, fF, fF, fF, fF, fF, fF, fF, fF, fF] kf rfl rfl trivial (fun hHeld => ?_); refine with_tabW laws_intactTermS.tab2 laws_intactTermS.bits2 (fun HT_ HW_ => ?_)
 generalize hq_ : World.drew _ = w11 at hHeld ⊢
 have nHR132_ : Aside0 (Kd.C k107 w11 A0 p.length p) := ⟨by rw [← hq_]; exact (by repeat (first | exact HR132.out | (with_reducible refine Kd.C_alloc ?_ _) | (with_reducible refine Kd.C_drewN ?_ _) | (with_reducible refine Kd.C_drew ?_)))⟩
 have nHR136_ : Aside0 (Kd.C k107 w11 A1 p.length p) := ⟨by rw [← hq_]; exact (by repeat (first | exact HR136.out | (with_reducible refine Kd.C_alloc ?_ _) | (with_reducible refine Kd.C_drewN ?_ _) | (with_reducible refine Kd.C_drew ?_)))⟩
 have nHB_ : Aside0 (Below w.heap.size w w11) := ⟨by rw [← hq_]; exact bz⟩
 clear hq_ HR132 HR136 HB
 have HR132 := nHR132_
 have HR136 := nHR136_
 have HB := nHB_
 clear nHR132_ nHR136_ nHB_
 refine pq (i := 0) (N := some 12) #[tT, fF, fF, fF, fF, fF, fF, fF, fF, fF, fF, fF, fF, fF, fF] rfl rfl HT_.out ?_
 refine pq (i := 1) (N := some 13) #[tT, tT, fF, fF, fF, fF, fF, fF, fF, fF, fF, fF, fF, fF, fF] rfl rfl HT_.out ?_
 refine pq (i := 2) (N := some 14) #[tT, tT, tT, fF, fF, fF, fF, fF, fF, fF, fF, fF, fF, fF, fF] rfl rfl HT_.out ?_
 refine pq (i := 3) (N := some 15) #[tT, tT, tT, tT, fF, fF, fF, fF, fF, fF, fF, fF, fF, fF, fF] rfl rfl HT_.out ?_
 refine pq (i := 4) (N := some 16) #[tT, tT, tT, tT, tT, fF, fF, fF, fF, fF, fF, fF, fF, fF, fF] rfl rfl HT_.out ?_
 refine pq (i := 5) (N := some 17) #[tT, tT, tT, tT, tT, tT, fF, fF, fF, fF, fF, fF, fF, fF, fF] rfl rfl HT_.out ?_
 refine pq (i := 6) (N := some 18) #[tT, tT, tT, tT, tT, tT, tT, fF, fF, fF, fF, fF, fF, fF, fF] rfl rfl HT_.out ?_
 refine pq (i := 7) (N := some 19) #[tT, tT, tT, tT, tT, tT, tT, tT, fF, fF, fF, fF, fF, fF, fF] rfl rfl HT_.out ?_
 refine pq (i := 8) (N := some 20) #[tT, tT, tT, tT, tT, tT, tT, tT, tT, fF, fF, fF, fF, fF, fF] rfl rfl HT_.out ?_
 refine pq (i := 9) (N := some 21) #[tT, tT, tT, tT, tT, tT, tT, tT, tT, tT, fF, fF, fF, fF, fF] rfl rfl HT_.out ?_
 refine pq (i := 10) (N := some 22) #[tT, tT, tT, tT, tT, tT, tT, tT, tT, tT, tT, fF, fF, fF, fF] rfl rfl HT_.out ?_
 refine pq (i := 11) (N := some 23) #[tT, tT, tT, tT, tT, tT, tT, tT, tT, tT, tT, tT, fF, fF, fF] rfl rfl HT_.out ?_
 refine one_ (i := 12) (N := some 24) #[tT, tT, tT, tT, tT, tT, tT, tT, tT, tT, tT, tT, tT, fF, fF] rfl rfl (one_of HT_.out kf) (by decide) (fun K hK => ?_)
 refine goes_ Try.func83 kf rfl #[.slice A0 p.length c0, .slice A1 p.length c1] (by rfl) rfl rfl sm ?_
 with_reducible refine (laws_eqTermS.calls k _ _ p _ _ p true _ ?side1 ?side2 ?side3 ?side4 A10.out).mono ?_
 (case side1 => repeat (first | exact HR132.out | exact (Kd.C_below HR132.out HB.out) | (with_reducible refine Kd.C_alloc ?_ _) | (with_reducible refine Kd.C_drewN ?_ _) | (with_reducible refine Kd.C_drew ?_)))
 (case side2 => exact HC132.out)
 (case side3 => repeat (first | exact HR136.out | exact (Kd.C_below HR136.out HB.out) | (with_reducible refine Kd.C_alloc ?_ _) | (with_reducible refine Kd.C_drewN ?_ _) | (with_reducible refine Kd.C_drew ?_)))
 (case side4 => exact HC136.out)
 rintro e w14 ⟨rfl, hb⟩
 refine ⟨_, rfl, ?_⟩
 have n0_ := Aside0.mk (below_step bz hb)
 clear HB
 have HB := n0_
 clear n0_
 (try clear hb)
 (try clear hb2)
 (try clear hk)
 (try clear hi)
 refine hK.out _ _ trivial (fun hHeld => ?_)
 clear hK K
 refine norm_ (a' := ?_) ?_ ?_
 rotate_left
 ·show Act.put _ (some 24) _ = _
  simp only [Act.put, List.setIfInBounds_toArray, List.set_cons_zero, List.set_cons_succ, i64_w, i32_w]
  rfl
 refine pq (i := 13) (N := some 25) #[tT, tT, tT, tT, tT, tT, tT, tT, tT, tT, tT, tT, tT, tT, fF] rfl rfl HT_.out ?_
 refine pq (i := 14) (N := some 4) #[tT, tT, tT, tT, tT, tT, tT, tT, tT, tT, tT, tT, tT, tT, tT] rfl rfl HT_.out ?_
 refine done_ (done_of HT_.out kf) ?_
 try go_wp2
 go_ret
 exact ⟨by first | rfl | (simp [errW_none, errW_some] <;> rfl) | (simp only [← hji5]; first | rfl | (simp [errW_none, errW_some] <;> rfl)) | (simp [*, errW_none, errW_some] <;> rfl), bz⟩
theorem toTermS_pad (kw : Nat) (A0 : Option Addr) (c0 : Nat) (l : List S109) (q P : List S107) (w : World) (hr : Kd.C k109 w A0 l.length l) (hc : l.length ≤ c0) (hw : laws_toTermSW.f kw l false = some P) (hq : q.length = l.length) :
 Calls Try.prog 32 #[.slice A0 l.length c0, .bool false] w fun e w' => ∃ (A : Option Addr) (c : Nat), e = .returned (.slice A q.length c) ∧ Kd.R k107 107 w' w.heap.size (fun _ => True) (.slice A P.length c) P ∧ Below w.heap.size w w' := by
 refine (laws_toTermSW.calls kw A0 c0 l false P w hr hc hw).mono ?_
 rintro e w' ⟨A, c, he, h1, h2⟩
 exact ⟨A, c, by rw [hq]; exact he, h1, h2⟩
mutual
def laws_toDyadicSW.j0 : Nat → List (S82) → Bool → Option ((List (S44)))
 | 0, _, _ => none
 | k + 1, x0, x13 => if x13 = true then (none) else ((laws_roomBehind.f (x0.length : Int)).bind fun t265 => (if 0 ≤ (wrap64 ((x0.length : Int) + t265)) then (if (wrap64 ((x0.length : Int) + t265) : Int).toNat ≤ 17592186044416 then (laws_toDyadicSW.l0 k x0 (List.replicate (wrap64 ((x0.length : Int) + t265) : Int).toNat z44) 0) else (none)) else (none)))
def laws_toDyadicSW.l0 : Nat → List (S82) → List (S44) → Int → Option ((List (S44)))
 | 0, _, _, _ => none
 | k + 1, x0, x5, x6 => if x6 < (x0.length : Int) then (if 0 ≤ x6 then ((laws_toDyadic.f ((rd_T82 x0 x6).f0) ((rd_T82 x0 x6).f1)).bind fun bt270 => (if x6 < (x5.length : Int) then (laws_toDyadicSW.l0 k x0 (x5.set (x6 : Int).toNat (⟨bt270.1, bt270.2⟩ : S44)) (wrap64 (x6 + 1))) else (none))) else (none)) else (laws_toDyadicSW.l1 k x0 x5 (x0.length : Int))
def laws_toDyadicSW.l1 : Nat → List (S82) → List (S44) → Int → Option ((List (S44)))
 | 0, _, _, _ => none
 | k + 1, x0, x5, x7 => if x7 < (x5.length : Int) then ((laws_fillerDyadic.f).bind fun bt273 => (if 0 ≤ x7 then (laws_toDyadicSW.l1 k x0 (x5.set (x7 : Int).toNat (⟨bt273.1, bt273.2⟩ : S44)) (wrap64 (x7 + 1))) else (none))) else (if 0 ≤ (x0.length : Int) then (if (x0.length : Int) ≤ (x5.length : Int) then (some x5) else (none)) else (none))
end
def laws_toDyadicSW.f (k : Nat) (l0 : List (S82)) (a1 : Bool) : Option ((List (S44))) := if a1 = true then (laws_toDyadicSW.j0 k l0 ((l0.length : Int) == 0)) else (laws_toDyadicSW.j0 k l0 false)
set_option maxHeartbeats 8000000 in
set_option maxRecDepth 100000 in
theorem laws_toDyadicSW.calls (k : Nat) (A0 : Option Addr) (c0 : Nat) (l0 : List (S82)) (a1 : Bool) (r : List (S44)) (w : World) (hr0 : Kd.C k82 w A0 l0.length l0) (hc0 : l0.length ≤ c0) (h : laws_toDyadicSW.f k l0 a1 = some r) :
 Calls Try.prog 13 #[.slice A0 l0.length c0, .bool a1] w fun e w' => ∃ (Ac_ : Option Addr) (cc_ : Nat), e = .returned (.slice Ac_ l0.length cc_) ∧ Kd.R k44 44 w' w.heap.size (fun _ => True) (.slice Ac_ r.length cc_) r ∧ Below w.heap.size w w' := by
 have hu82 := Try.underlying82
 have hu44 := Try.underlying44
 have HR0 := Aside0.mk hr0
 have HC0 := Aside0.mk hc0
 clear hr0 hc0
 have HB := Aside0.mk (Below.refl w.heap.size w)
 have H : (if a1 = true then (laws_toDyadicSW.j0 k l0 ((l0.length : Int) == 0)) else (laws_toDyadicSW.j0 k l0 false)) = some r := h
 clear h
 have HC3 := Aside0.mk H
 clear H
 go_enter Try.func13, Try.ntmps13
 go_upto_region 1 with (fail)
 go_cut [13] (fun v13 wc => ∃ (kq : Nat) (x13_2 : Bool), v13 = .bool x13_2 ∧ Aside0 (laws_toDyadicSW.j0 kq l0 x13_2 = some r) ∧ Aside0 (kq ≤ k) ∧ Aside0 (Below w.heap.size w wc))
 case first =>
  have H := HC3.out
  clear HC3
  by_cases c4 : a1 = true
  ·subst c4
   rw [if_pos rfl] at H
   have H' := Aside0.mk H
   clear H
   go_wp2
   go_meet
   case rel => exact ⟨_, (((l0.length : Int) == 0)), sr, H', ⟨by first | omega | exact Nat.le_refl _⟩, ⟨bz⟩⟩
  ·replace c4 := Bool.eq_false_iff.mpr c4
   subst c4
   rw [if_neg (show ¬ (false = true) by decide)] at H
   have H' := Aside0.mk H
   clear H
   go_wp2
   go_meet
   case rel => exact ⟨_, (false), sr, H', ⟨by first | omega | exact Nat.le_refl _⟩, ⟨bz⟩⟩
 case rest =>
  clear HC3
  try clear c1; try clear p2; try clear c4
  obtain ⟨kq, x13_2, rfl, HA, HJ2, HB⟩ := hcut
  cases kq with
  | zero => exact absurd HA.out (by simp [laws_toDyadicSW.j0])
  | succ kj2 =>
   have H := HA.out
   clear HA
   simp only [laws_toDyadicSW.j0] at H
   by_cases c5 : x13_2 = true
   ·subst c5
    have H1 : none = some r := by rw [if_pos rfl] at H; exact H
    exact absurd H1 (by simp)
   ·replace c5 := Bool.eq_false_iff.mpr c5
    subst c5
    rw [if_neg (show ¬ (false = true) by decide)] at H
    obtain ⟨t265, A6, H⟩ := bi H
    obtain ⟨ji7, hji7⟩ : ∃ j_ : Int, (wrap64 ((l0.length : Int) + t265)) = j_ := ⟨_, rfl⟩
    first | rw [hji7] at H | simp only [hji7] at H
    (try rw [hji7] at A6)
    have hji7w : (IntKind.i64.wrap ((l0.length : Int) + t265)) = ji7 := (i64_w _).trans hji7
    by_cases c8 : 0 ≤ (ji7)
    ·rw [if_pos c8] at H
     have c8b0 := eq_true c8
     have c8b1 : decide (0 ≤ (ji7)) = true := decide_eq_true c8
     clear c8
     by_cases c9 : (ji7 : Int).toNat ≤ 17592186044416
     ·rw [if_pos c9] at H
      have c9b0 := eq_true c9
      have c9b1 : decide ((ji7 : Int).toNat ≤ 17592186044416) = true := decide_eq_true c9
      clear c9
      obtain ⟨y266, hy266⟩ : ∃ y_ : List (S44), y_ = (List.replicate (ji7 : Int).toNat z44) := ⟨_, rfl⟩
      replace H : (laws_toDyadicSW.l0 kj2 l0 y266 0) = some r := by first | (rw [hy266]; with_reducible exact H) | (have H2_ := (Option.bind_some _ _).symm.trans H; rw [hy266]; with_reducible exact H2_) | (have H2_ := (Option.bind_some _ _).symm.trans H; with_reducible exact H2_) | with_reducible exact H | (rw [hy266]; exact H) | exact H
      have Ny266 := Aside0.mk hy266
      clear hy266
      have H' := Aside0.mk H
      clear H
      go_wp2_with (first | ((with_reducible refine gate_callee (f := 55) rfl ?_); refine goesL_ (some 18) rfl rfl Try.func55 kf rfl #[.int .i64 (l0.length : Int)] rfl sm ?_; (with_reducible refine (laws_roomBehind.calls (l0.length : Int) t265 _ A6.out).mono ?_); rintro e w' ⟨rfl, ⟨nd, rfl⟩⟩; refine ⟨_, rfl, ?_⟩) | ((with_reducible refine gate_dst (N := 20) rfl ?_); (try (refine gate_guard (by rfl) ?_; dsimp only)); refine Kd.R_make k44 _ 44 rfl (N := 20) rfl 25 _ _ rfl ji7 rfl rfl Try.underlying25 (.agg #[(.int .i64 0), (.int .i64 0)]) 16 info44 rfl (by decide) (by omega) z44 (ok := fun _ => True) (okp := fun _ => True) (k44_mkM _ _ _ z44 ) (fun _ hk => hk) trivial (of_decide_eq_true am) (Nat.le_trans (Nat.mul_le_mul_right _ (of_decide_eq_true am : ji7.toNat ≤ 17592186044416)) (by omega)) (Below.refl _ _) (Nat.le_refl _) ?_; intro v267 w10 ho11 hb hg_ hnew_; clear hg_ hnew_; (first | rw [← Ny266.out] at ho11 | (simp only [Int.reduceToNat] at ho11; rw [← Ny266.out] at ho11)); have n0_ := Aside0.mk (Kd.R_lower ho11 (below_size bz)); have n1_ := Aside0.mk (below_step bz hb); clear HB; have HO268 := n0_; have HB := n1_; clear n0_ n1_; clear hb ho11))
      go_loopg [6] kj2 (fun kq v6 w' => ∃ (x5_2 : List (S44)) (x6_2 : Int), v6 = .int .i64 x6_2 ∧ Aside0 (laws_toDyadicSW.l0 kq l0 x5_2 x6_2 = some r) ∧ Aside0 (kq ≤ kj2) ∧ Aside0 (Kd.R k44 44 w' w.heap.size (fun _ => True) v267 x5_2) ∧ Aside0 (Below w.heap.size w w'))
      case atStart => exact ⟨(y266), (0), sr, H', ⟨Nat.le_refl _⟩, ⟨kr HO268⟩, ⟨bz⟩⟩
      case round =>
       clear H'
       try clear c1; try clear p2; try clear c4; try clear c5; try clear p6; try clear c8; try clear c8b0; try clear c8b1; try clear c9; try clear c9b0; try clear c9b1; try clear p2
       obtain ⟨x5_2, x6_2, rfl, HA, HK2, HO_5, HB⟩ := hrel
       cases gk with
       | zero => exact absurd HA.out (by simp [laws_toDyadicSW.l0])
       | succ k2 =>
        have H := HA.out
        clear HA
        simp only [laws_toDyadicSW.l0] at H
        by_cases c12 : x6_2 < (l0.length : Int)
        ·rw [if_pos c12] at H
         have c12b0 : decide (x6_2 < (l0.length : Int)) = true := decide_eq_true c12
         clear c12
         by_cases c13 : 0 ≤ x6_2
         ·rw [if_pos c13] at H
          have c13b0 : decide (0 ≤ x6_2) = true := decide_eq_true c13
          clear c13
          obtain ⟨⟨t270, t271⟩, A14, H⟩ := bi H
          try dsimp only at H
          by_cases c15 : x6_2 < (x5_2.length : Int)
          ·rw [if_pos c15] at H
           have c15b0 : decide (x6_2 < (x5_2.length : Int)) = true := decide_eq_true c15
           clear c15
           obtain ⟨y272, hy272⟩ : ∃ y_ : List (S44), y_ = (x5_2.set (x6_2 : Int).toNat (⟨t270, t271⟩ : S44)) := ⟨_, rfl⟩
           replace H : (laws_toDyadicSW.l0 k2 l0 y272 (wrap64 (x6_2 + 1))) = some r := by first | (rw [hy272]; with_reducible exact H) | (have H2_ := (Option.bind_some _ _).symm.trans H; rw [hy272]; with_reducible exact H2_) | (have H2_ := (Option.bind_some _ _).symm.trans H; with_reducible exact H2_) | with_reducible exact H | (rw [hy272]; exact H) | exact H
           have Ny272 := Aside0.mk hy272
           clear hy272
           have H' := Aside0.mk H
           clear H
           have p269 : 0 ≤ (x6_2 : Int) := of_decide_eq_true am
           have q269 : x6_2 < (l0.length : Int) := of_decide_eq_true am
           obtain ⟨ad269, e269, hx269_0, hx269_1⟩ := at_T82 HR0.out x6_2 p269 q269
           cases e269
           replace hx269_0 := (HB.out.cell (World.block_lt_of_cell? w _ hx269_0)).trans hx269_0
           replace hx269_1 := (HB.out.cell (World.block_lt_of_cell? w _ hx269_1)).trans hx269_1
           replace p269 := eq_true p269
           replace q269 := eq_true q269
           go_wp2_with (first | ((with_reducible refine gate_callee (f := 56) rfl ?_); refine goesL_ (some 33) rfl rfl Try.func56 kf rfl #[.agg #[.int .i64 ((rd_T82 l0 x6_2).f0), .int .i64 ((rd_T82 l0 x6_2).f1)]] rfl sm ?_; (with_reducible refine (laws_toDyadic.calls ((rd_T82 l0 x6_2).f0) ((rd_T82 l0 x6_2).f1) t270 t271 _ A14.out).mono ?_); rintro e w17 ⟨rfl, hb⟩; refine ⟨_, rfl, ?_⟩; have n0_ := Aside0.mk (Kd.R_below (kr HO_5) hb); have n1_ := Aside0.mk (below_step bz hb); clear HO_5; clear HB; have HO_5 := n0_; have HB := n1_; clear n0_ n1_; (try clear hb); (try clear hb2); (try clear hk); (try clear hi); have p16 : 0 ≤ (x6_2 : Int) := of_decide_eq_true am; have q16 : (x6_2 : Int) < ((x5_2.length : Int) : Int) := of_decide_eq_true am; obtain ⟨go16, co16, eo16, gb16, gl16, cl16, HG16⟩ := Kd.R_form HO_5.out (by omega); (first | cases eo16 | (injection eo16 with ea_ en_ ec_; (first | subst ea_ | (injection ea_ with ea_; subst ea_)); subst ec_; clear en_)); have GB16 := Aside0.mk gb16; have GG16 := Aside0.mk HG16; clear gb16 gl16 HG16; obtain ⟨ce16, hcl16, hM16, hcc16, hfr16⟩ := Kd.R_elem HO_5.out z44 (x6_2 : Int) p16 q16; obtain rfl := k44_openM hM16; have hx16_0 : w17.cell? ⟨go16, (x6_2 : Int).toNat * 2, none⟩ = some (.int .i64 ((rd_T44 x5_2 x6_2).f0)) := hcc16 0 _ rfl; have hx16_1 : w17.cell? ⟨go16, (x6_2 : Int).toNat * 2 + 1, none⟩ = some (.int .i64 ((rd_T44 x5_2 x6_2).f1)) := hcc16 1 _ rfl; have hf16_0 : w17.frozen? ⟨go16, (x6_2 : Int).toNat * 2, none⟩ = false := hfr16 0; have hf16_1 : w17.frozen? ⟨go16, (x6_2 : Int).toNat * 2 + 1, none⟩ = false := hfr16 1; clear hcl16 hcc16 hfr16 hM16; replace p16 := eq_true p16; replace q16 := eq_true q16; have HX18 := Aside0.mk (show Kd.R k44 44 w17 w.heap.size (fun _ => True) (.slice (some ⟨go16, 0, none⟩) x5_2.length co16) x5_2 from (kr HO_5)); obtain ⟨ce18, hcl18, hM18, hcc18, hfr18⟩ := Kd.R_elem HX18.out z44 (x6_2 : Int) (of_decide_eq_true am) (by have h_ : (x6_2 : Int) < ((x5_2.length : Int) : Int) := of_decide_eq_true am; first | exact h_ | (have e_ := (Kd.R_reads' HO_5.out).1; omega) | simpa using h_); obtain rfl := k44_openM hM18; have HP18 := Kd.R_seg HX18.out (x6_2 : Int) (of_decide_eq_true am) (by have h_ : (x6_2 : Int) < ((x5_2.length : Int) : Int) := of_decide_eq_true am; first | exact h_ | (have e_ := (Kd.R_reads' HO_5.out).1; omega) | simpa using h_) (seg := [.int .i64 t270, .int .i64 t271]) (j := 0) hcl18 hcc18 (show 2 ≤ 2 from by decide) (x' := (⟨t270, t271⟩ : S44)) (k44_mkM _ _ _ (⟨t270, t271⟩ : S44) ) (fun _ hk => hk); have hx18_0 := hcc18 0 _ rfl; (try simp only [show (k44).sz = 2 from rfl, Nat.mul_one, Nat.add_zero] at hx18_0); have hf18_0 := hfr18 0; (try simp only [show (k44).sz = 2 from rfl, Nat.mul_one, Nat.add_zero] at hf18_0); have hx18_1 := hcc18 1 _ rfl; (try simp only [show (k44).sz = 2 from rfl, Nat.mul_one, Nat.add_zero] at hx18_1); have hf18_1 := hfr18 1; (try simp only [show (k44).sz = 2 from rfl, Nat.mul_one, Nat.add_zero] at hf18_1); clear hcl18 hcc18 hfr18 hM18) | ((with_reducible refine gate_store (t := 44) (p := 34) rfl ?_); refine store_event (t := 44) (p := 34) (v := ?vo_w19) (w1 := ((w17.setCell ⟨go16, (x6_2 : Int).toNat * 2, none⟩ (.int .i64 t270)).setCell ⟨go16, (x6_2 : Int).toNat * 2 + 1, none⟩ (.int .i64 t271))) ?hg ?ho ?hn ?hr ?_; (case ho => rfl); (case hg => rfl); (case hn => rfl); (case hr => first | (go_simp; done) | (go_simp; rfl)); intro w19 hw; have hg : w17.grownBy w19 (some go16) := (by rw [hw]; exact HP18.2); have hp_ : Kd.R k44 44 w19 w.heap.size (fun _ => True) (.slice (some ⟨go16, 0, none⟩) x5_2.length co16) y272 := (by rw [hw, Ny272.out]; exact HP18.1); clear HP18; have n0_ := Aside0.mk (hp_); have n1_ := Aside0.mk ((by rw [hw]; exact below_set (below_set (HB.out) GB16.out) GB16.out : Below w.heap.size w w19)); clear HO_5; clear HB; have HO_5 := n0_; have HB := n1_; clear n0_ n1_; clear hg hw hp_))
           go_roundg k2
           case measure => have := HJ2.out; have := HK2.out; omega
           case rel => exact ⟨(y272), (wrap64 (x6_2 + 1)), sr, H', ⟨by have := HJ2.out; have := HK2.out; omega⟩, ⟨kr HO_5⟩, ⟨bz⟩⟩
          ·rw [if_neg c15] at H
           exact absurd H (by simp)
         ·rw [if_neg c13] at H
          exact absurd H (by simp)
        ·rw [if_neg c12] at H
         have c12b0 : decide (x6_2 < (l0.length : Int)) = false := decide_eq_false c12
         clear c12
         have H' := Aside0.mk H
         clear H
         go_wp2
         go_loopg [7] k2 (fun kq v7 w' => ∃ (x5_3 : List (S44)) (x7_3 : Int), v7 = .int .i64 x7_3 ∧ Aside0 (laws_toDyadicSW.l1 kq l0 x5_3 x7_3 = some r) ∧ Aside0 (kq ≤ k2) ∧ Aside0 (Kd.R k44 44 w' w.heap.size (fun _ => True) v267 x5_3) ∧ Aside0 (Below w.heap.size w w'))
         case atStart => exact ⟨(x5_2), ((l0.length : Int)), sr, H', ⟨Nat.le_refl _⟩, ⟨kr HO_5⟩, ⟨bz⟩⟩
         case round =>
          clear H'
          try clear c1; try clear p1; try clear q1; try clear hx1; try clear p2; try clear q2; try clear hx2; try clear c4; try clear c5; try clear p6; try clear c8; try clear c8b0; try clear c8b1; try clear c9; try clear c9b0; try clear c9b1; try clear c12; try clear c12b0; try clear c13; try clear c13b0; try clear c15; try clear c15b0; try clear c16; try clear p16; try clear q16; try clear hx16; try clear hf16; try clear c18; try clear hx18; try clear hf18; try clear hx16_0; try clear hx16_1; try clear hx18_0; try clear hx18_1; try clear hx269_0; try clear hx269_1; try clear p16; try clear p2; try clear p269; try clear p6; try clear q16; try clear q269
          obtain ⟨x5_3, x7_3, rfl, HA, HK3, HO_5, HB⟩ := hrel
          cases gk with
          | zero => exact absurd HA.out (by simp [laws_toDyadicSW.l1])
          | succ k3 =>
           have H := HA.out
           clear HA
           simp only [laws_toDyadicSW.l1] at H
           by_cases c20 : x7_3 < (x5_3.length : Int)
           ·rw [if_pos c20] at H
            have c20b0 : decide (x7_3 < (x5_3.length : Int)) = true := decide_eq_true c20
            clear c20
            obtain ⟨⟨t273, t274⟩, A21, H⟩ := bi H
            try dsimp only at H
            by_cases c22 : 0 ≤ x7_3
            ·rw [if_pos c22] at H
             have c22b0 : decide (0 ≤ x7_3) = true := decide_eq_true c22
             clear c22
             obtain ⟨y275, hy275⟩ : ∃ y_ : List (S44), y_ = (x5_3.set (x7_3 : Int).toNat (⟨t273, t274⟩ : S44)) := ⟨_, rfl⟩
             replace H : (laws_toDyadicSW.l1 k3 l0 y275 (wrap64 (x7_3 + 1))) = some r := by first | (rw [hy275]; with_reducible exact H) | (have H2_ := (Option.bind_some _ _).symm.trans H; rw [hy275]; with_reducible exact H2_) | (have H2_ := (Option.bind_some _ _).symm.trans H; with_reducible exact H2_) | with_reducible exact H | (rw [hy275]; exact H) | exact H
             have Ny275 := Aside0.mk hy275
             clear hy275
             have H' := Aside0.mk H
             clear H
             obtain ⟨Ao24, co24, eo24⟩ := Kd.R_slice HO_5.out
             subst eo24
             go_wp2_with (first | ((with_reducible refine gate_callee (f := 57) rfl ?_); refine goesL_ (some 45) rfl rfl Try.func57 kf rfl #[] rfl sm ?_; (with_reducible refine (laws_fillerDyadic.calls  t273 t274 _ A21.out).mono ?_); rintro e w25 ⟨rfl, hb⟩; refine ⟨_, rfl, ?_⟩; have n0_ := Aside0.mk (Kd.R_below (kr HO_5) hb); have n1_ := Aside0.mk (below_step bz hb); clear HO_5; clear HB; have HO_5 := n0_; have HB := n1_; clear n0_ n1_; (try clear hb); (try clear hb2); (try clear hk); (try clear hi); have p23 : 0 ≤ (x7_3 : Int) := of_decide_eq_true am; have q23 : (x7_3 : Int) < ((x5_3.length : Int) : Int) := of_decide_eq_true am; obtain ⟨go23, co23, eo23, gb23, gl23, cl23, HG23⟩ := Kd.R_form HO_5.out (by omega); (first | cases eo23 | (injection eo23 with ea_ en_ ec_; (first | subst ea_ | (injection ea_ with ea_; subst ea_)); subst ec_; clear en_)); have GB23 := Aside0.mk gb23; have GG23 := Aside0.mk HG23; clear gb23 gl23 HG23; obtain ⟨ce23, hcl23, hM23, hcc23, hfr23⟩ := Kd.R_elem HO_5.out z44 (x7_3 : Int) p23 q23; obtain rfl := k44_openM hM23; have hx23_0 : w25.cell? ⟨go23, (x7_3 : Int).toNat * 2, none⟩ = some (.int .i64 ((rd_T44 x5_3 x7_3).f0)) := hcc23 0 _ rfl; have hx23_1 : w25.cell? ⟨go23, (x7_3 : Int).toNat * 2 + 1, none⟩ = some (.int .i64 ((rd_T44 x5_3 x7_3).f1)) := hcc23 1 _ rfl; have hf23_0 : w25.frozen? ⟨go23, (x7_3 : Int).toNat * 2, none⟩ = false := hfr23 0; have hf23_1 : w25.frozen? ⟨go23, (x7_3 : Int).toNat * 2 + 1, none⟩ = false := hfr23 1; clear hcl23 hcc23 hfr23 hM23; replace p23 := eq_true p23; replace q23 := eq_true q23; have HX26 := Aside0.mk (show Kd.R k44 44 w25 w.heap.size (fun _ => True) (.slice (some ⟨go23, 0, none⟩) x5_3.length co24) x5_3 from (kr HO_5)); obtain ⟨ce26, hcl26, hM26, hcc26, hfr26⟩ := Kd.R_elem HX26.out z44 (x7_3 : Int) (of_decide_eq_true am) (by have h_ : (x7_3 : Int) < ((x5_3.length : Int) : Int) := of_decide_eq_true am; first | exact h_ | (have e_ := (Kd.R_reads' HO_5.out).1; omega) | simpa using h_); obtain rfl := k44_openM hM26; have HP26 := Kd.R_seg HX26.out (x7_3 : Int) (of_decide_eq_true am) (by have h_ : (x7_3 : Int) < ((x5_3.length : Int) : Int) := of_decide_eq_true am; first | exact h_ | (have e_ := (Kd.R_reads' HO_5.out).1; omega) | simpa using h_) (seg := [.int .i64 t273, .int .i64 t274]) (j := 0) hcl26 hcc26 (show 2 ≤ 2 from by decide) (x' := (⟨t273, t274⟩ : S44)) (k44_mkM _ _ _ (⟨t273, t274⟩ : S44) ) (fun _ hk => hk); have hx26_0 := hcc26 0 _ rfl; (try simp only [show (k44).sz = 2 from rfl, Nat.mul_one, Nat.add_zero] at hx26_0); have hf26_0 := hfr26 0; (try simp only [show (k44).sz = 2 from rfl, Nat.mul_one, Nat.add_zero] at hf26_0); have hx26_1 := hcc26 1 _ rfl; (try simp only [show (k44).sz = 2 from rfl, Nat.mul_one, Nat.add_zero] at hx26_1); have hf26_1 := hfr26 1; (try simp only [show (k44).sz = 2 from rfl, Nat.mul_one, Nat.add_zero] at hf26_1); clear hcl26 hcc26 hfr26 hM26) | ((with_reducible refine gate_store (t := 44) (p := 46) rfl ?_); refine store_event (t := 44) (p := 46) (v := ?vo_w27) (w1 := ((w25.setCell ⟨go23, (x7_3 : Int).toNat * 2, none⟩ (.int .i64 t273)).setCell ⟨go23, (x7_3 : Int).toNat * 2 + 1, none⟩ (.int .i64 t274))) ?hg ?ho ?hn ?hr ?_; (case ho => rfl); (case hg => rfl); (case hn => rfl); (case hr => first | (go_simp; done) | (go_simp; rfl)); intro w27 hw; have hg : w25.grownBy w27 (some go23) := (by rw [hw]; exact HP26.2); have hp_ : Kd.R k44 44 w27 w.heap.size (fun _ => True) (.slice (some ⟨go23, 0, none⟩) x5_3.length co24) y275 := (by rw [hw, Ny275.out]; exact HP26.1); clear HP26; have n0_ := Aside0.mk (hp_); have n1_ := Aside0.mk ((by rw [hw]; exact below_set (below_set (HB.out) GB23.out) GB23.out : Below w.heap.size w w27)); clear HO_5; clear HB; have HO_5 := n0_; have HB := n1_; clear n0_ n1_; clear hg hw hp_))
             go_roundg k3
             case measure => have := HJ2.out; have := HK2.out; have := HK3.out; omega
             case rel => exact ⟨(y275), (wrap64 (x7_3 + 1)), sr, H', ⟨by have := HJ2.out; have := HK2.out; have := HK3.out; omega⟩, ⟨kr HO_5⟩, ⟨bz⟩⟩
            ·rw [if_neg c22] at H
             exact absurd H (by simp)
           ·rw [if_neg c20] at H
            have c20b0 : decide (x7_3 < (x5_3.length : Int)) = false := decide_eq_false c20
            clear c20
            by_cases c28 : 0 ≤ (l0.length : Int)
            ·rw [if_pos c28] at H
             have c28b0 := eq_true c28
             have c28b1 : decide (0 ≤ (l0.length : Int)) = true := decide_eq_true c28
             clear c28
             by_cases c29 : (l0.length : Int) ≤ (x5_3.length : Int)
             ·rw [if_pos c29] at H
              have c29b0 := eq_true c29
              have c29b1 : decide ((l0.length : Int) ≤ (x5_3.length : Int)) = true := decide_eq_true c29
              clear c29
              obtain ⟨y276, hy276⟩ : ∃ y_ : List (S44), y_ = (x5_3.take ((l0.length : Int) : Int).toNat) := ⟨_, rfl⟩
              have Ny276 := Aside0.mk hy276
              clear hy276
              have HR_ := Aside0.mk (Option.some.inj H)
              obtain ⟨Ao30, co30, eo30⟩ := Kd.R_slice HO_5.out
              subst eo30
              have q31 : ((l0.length : Int) : Int) ≤ ((x5_3.length : Int) : Int) := of_decide_eq_true am
              obtain ⟨i031, hi031, _, hsz31, _⟩ := info_parts info44
              have hcut31 := cut_to (P := Try.prog) 25 44 .i64 Try.underlying25 hi031 Ao30 x5_3.length co30 (l0.length : Int) (of_decide_eq_true am) q31 (Kd.R_reads' HO_5.out).2.1
              have hr31 := Kd.R_take (m := ((l0.length : Int) : Int).toNat) HO_5.out (by omega)
              have hy31 : y276.length = ((l0.length : Int) : Int).toNat := (by rw [Ny276.out, List.length_take]; omega)
              rw [← Ny276.out] at hr31
              rw [← hy31] at hr31 hcut31
              have HY_ : Aside0 (y276.length = l0.length) := ⟨by rw [hy31]; simp⟩
              clear hy31 hi031 hsz31
              have HO278 := Aside0.mk hr31
              clear hr31
              replace q31 := eq_true q31
              go_wp2
              go_ret
              exact ⟨Ao30, co30, by first | rfl | (rw [HY_.out]; done) | (simp [HY_.out]; done), by rw [← HR_.out]; (with_reducible repeat (first | apply Kd.R_alloc | apply Kd.R_drewN | apply Kd.R_drew)); first | exact HO_5.out | exact Kd.R_mono HO_5.out (fun _ _ => trivial), bz⟩
             ·rw [if_neg c29] at H
              exact absurd H (by simp)
            ·rw [if_neg c28] at H
             exact absurd H (by simp)
     ·rw [if_neg c9] at H
      exact absurd H (by simp)
    ·rw [if_neg c8] at H
     exact absurd H (by simp)
def cvDyadicS (x : S82) : S44 := ⟨x.f0, x.f1⟩
def fillDyadicS : S44 := ⟨-7000000000000000101, -7000000000000000101⟩
def padDyadicS (l : List S82) : List S44 := l.map cvDyadicS ++ List.replicate (room l.length) fillDyadicS
theorem padDyadicS_length (l : List S82) : (padDyadicS l).length = l.length + room l.length := by simp [padDyadicS]
theorem set_fillDyadicS (Q : List S44) (F i : Nat) (h : i < Q.length) (hF : Q.length ≤ F) : (Q.take i ++ List.replicate (F - i) z44).set i Q[i] = Q.take (i + 1) ++ List.replicate (F - (i + 1)) z44 := by
 have h1 : F - i = (F - (i + 1)) + 1 := by omega
 rw [h1, List.replicate_succ, List.set_append_right _ _ (by simp; omega)]
 have h2 : i - (Q.take i).length = 0 := by simp; omega
 rw [h2, List.set_cons_zero, List.take_succ_eq_append_getElem h, List.append_assoc]
 rfl
theorem set_fill2DyadicS (Q : List S44) (F i : Nat) (h : Q.length ≤ i) (hF : i < F) : (Q ++ (List.replicate (i - Q.length) fillDyadicS ++ List.replicate (F - i) z44)).set i fillDyadicS = Q ++ (List.replicate (i + 1 - Q.length) fillDyadicS ++ List.replicate (F - (i + 1)) z44) := by
 have h1 : F - i = (F - (i + 1)) + 1 := by omega
 rw [List.set_append_right _ _ h, List.set_append_right _ _ (by simp), h1, List.replicate_succ]
 have h2 : i - Q.length - (List.replicate (i - Q.length) fillDyadicS).length = 0 := by simp
 rw [h2, List.set_cons_zero]
 have h3 : i + 1 - Q.length = (i - Q.length) + 1 := by omega
 rw [h3, List.replicate_succ', List.append_assoc]
 rfl
theorem laws_toDyadicS_l1 (l : List S82) (F : Nat) (hF : F ≤ 3000000) (hlF : l.length ≤ F) (d : Nat) : ∀ (k i : Nat), l.length ≤ i → i ≤ F → F - i = d → d < k → laws_toDyadicS.l1 k l (l.map cvDyadicS ++ (List.replicate (i - l.length) fillDyadicS ++ List.replicate (F - i) z44)) (i : Int) = some (l.map cvDyadicS) := by
 induction d with
 | zero =>
  intro k i h0 h1 hd hk
  obtain ⟨k, rfl⟩ : ∃ m, k = m + 1 := ⟨k - 1, by omega⟩
  have e : i = F := by omega
  subst e
  simp only [laws_toDyadicS.l1]; rw [if_neg (by simp only [List.length_append, List.length_replicate, List.length_map]; omega), if_pos (by omega), if_pos (by simp only [List.length_append, List.length_replicate, List.length_map]; omega)]
  simp
 | succ d ih =>
  intro k i h0 h1 hd hk
  obtain ⟨k, rfl⟩ : ∃ m, k = m + 1 := ⟨k - 1, by omega⟩
  have hs := set_fill2DyadicS (l.map cvDyadicS) F i (by simpa using h0) (by omega)
  simp only [List.length_map] at hs
  simp only [laws_toDyadicS.l1]; rw [if_pos (by simp only [List.length_append, List.length_replicate, List.length_map]; omega), show laws_fillerDyadic.f = some ((-7000000000000000101), (-7000000000000000101)) from rfl, Option.bind_some, if_pos (by omega), show wrap64 ((i : Int) + 1) = ((i + 1 : Nat) : Int) by unfold wrap64; omega, Int.toNat_natCast]
  change laws_toDyadicS.l1 k l ((l.map cvDyadicS ++ (List.replicate (i - l.length) fillDyadicS ++ List.replicate (F - i) z44)).set i fillDyadicS) _ = _
  rw [hs]
  exact ih k (i + 1) (by omega) (by omega) (by omega) (by omega)
theorem laws_toDyadicS_l0 (l : List S82) (F : Nat) (hF : F ≤ 3000000) (hlF : l.length ≤ F) (d : Nat) : ∀ (k i : Nat), i ≤ l.length → l.length - i = d → d + F + 2 < k → laws_toDyadicS.l0 k l ((l.map cvDyadicS).take i ++ List.replicate (F - i) z44) (i : Int) = some (l.map cvDyadicS) := by
 induction d with
 | zero =>
  intro k i h1 hd hk
  obtain ⟨k, rfl⟩ : ∃ m, k = m + 1 := ⟨k - 1, by omega⟩
  have e : i = l.length := by omega
  subst e
  simp only [laws_toDyadicS.l0]; rw [if_neg (by omega)]
  have h := laws_toDyadicS_l1 l F hF hlF (F - l.length) k l.length (Nat.le_refl _) hlF rfl (by omega)
  simp only [Nat.sub_self, List.replicate_zero, List.nil_append] at h
  rw [List.take_of_length_le (by simp)]
  exact h
 | succ d ih =>
  intro k i h1 hd hk
  obtain ⟨k, rfl⟩ : ∃ m, k = m + 1 := ⟨k - 1, by omega⟩
  have hi : i < l.length := by omega
  have hs := set_fillDyadicS (l.map cvDyadicS) F i (by simpa using hi) (by simpa using hlF)
  have hr : rd_T82 l (i : Int) = l[i] := by simp [rd_T82, hi]
  simp only [laws_toDyadicS.l0]; rw [if_pos (by omega), if_pos (by omega), hr, show laws_toDyadic.f l[i].f0 l[i].f1 = some (l[i].f0, l[i].f1) from rfl, Option.bind_some, if_pos (by simp only [List.length_append, List.length_take, List.length_replicate, List.length_map]; omega), show wrap64 ((i : Int) + 1) = ((i + 1 : Nat) : Int) by unfold wrap64; omega, Int.toNat_natCast]
  have hc : (⟨l[i].f0, l[i].f1⟩ : S44) = (l.map cvDyadicS)[i]'(by simpa using hi) := by simp [cvDyadicS]
  change laws_toDyadicS.l0 k l (((l.map cvDyadicS).take i ++ List.replicate (F - i) z44).set i (⟨l[i].f0, l[i].f1⟩ : S44)) _ = _
  rw [hc, hs]
  exact ih k (i + 1) (by omega) (by omega) (by omega)
theorem laws_toDyadicS_j0 (l : List S82) (hn : l.length ≤ 1000000) (F : Nat) (hF : l.length + room l.length = F) (k : Nat) (hk : l.length + F + 2 < k) : laws_toDyadicS.j0 (k + 1) l false = some (l.map cvDyadicS) := by
 have hr := room_le l.length
 have hw : wrap64 ((l.length : Int) + (room l.length : Int)) = (F : Int) := by unfold wrap64; omega
 have h := laws_toDyadicS_l0 l F (by omega) (by omega) l.length k 0 (by omega) (by omega) hk
 simp only [laws_toDyadicS.j0]
 rw [if_neg (by decide), roomBehind_eq, Option.bind_some, hw, if_pos (by omega), Int.toNat_natCast, if_pos (by omega)]
 simpa using h
theorem laws_toDyadicSW_l1 (l : List S82) (F : Nat) (hF : F ≤ 3000000) (hlF : l.length ≤ F) (d : Nat) : ∀ (k i : Nat), l.length ≤ i → i ≤ F → F - i = d → d < k → laws_toDyadicSW.l1 k l (l.map cvDyadicS ++ (List.replicate (i - l.length) fillDyadicS ++ List.replicate (F - i) z44)) (i : Int) = some (l.map cvDyadicS ++ List.replicate (F - l.length) fillDyadicS) := by
 induction d with
 | zero =>
  intro k i h0 h1 hd hk
  obtain ⟨k, rfl⟩ : ∃ m, k = m + 1 := ⟨k - 1, by omega⟩
  have e : i = F := by omega
  subst e
  simp only [laws_toDyadicSW.l1]; rw [if_neg (by simp only [List.length_append, List.length_replicate, List.length_map]; omega), if_pos (by omega), if_pos (by simp only [List.length_append, List.length_replicate, List.length_map]; omega)]
  simp
 | succ d ih =>
  intro k i h0 h1 hd hk
  obtain ⟨k, rfl⟩ : ∃ m, k = m + 1 := ⟨k - 1, by omega⟩
  have hs := set_fill2DyadicS (l.map cvDyadicS) F i (by simpa using h0) (by omega)
  simp only [List.length_map] at hs
  simp only [laws_toDyadicSW.l1]; rw [if_pos (by simp only [List.length_append, List.length_replicate, List.length_map]; omega), show laws_fillerDyadic.f = some ((-7000000000000000101), (-7000000000000000101)) from rfl, Option.bind_some, if_pos (by omega), show wrap64 ((i : Int) + 1) = ((i + 1 : Nat) : Int) by unfold wrap64; omega, Int.toNat_natCast]
  change laws_toDyadicSW.l1 k l ((l.map cvDyadicS ++ (List.replicate (i - l.length) fillDyadicS ++ List.replicate (F - i) z44)).set i fillDyadicS) _ = _
  rw [hs]
  exact ih k (i + 1) (by omega) (by omega) (by omega) (by omega)
theorem laws_toDyadicSW_l0 (l : List S82) (F : Nat) (hF : F ≤ 3000000) (hlF : l.length ≤ F) (d : Nat) : ∀ (k i : Nat), i ≤ l.length → l.length - i = d → d + F + 2 < k → laws_toDyadicSW.l0 k l ((l.map cvDyadicS).take i ++ List.replicate (F - i) z44) (i : Int) = some (l.map cvDyadicS ++ List.replicate (F - l.length) fillDyadicS) := by
 induction d with
 | zero =>
  intro k i h1 hd hk
  obtain ⟨k, rfl⟩ : ∃ m, k = m + 1 := ⟨k - 1, by omega⟩
  have e : i = l.length := by omega
  subst e
  simp only [laws_toDyadicSW.l0]; rw [if_neg (by omega)]
  have h := laws_toDyadicSW_l1 l F hF hlF (F - l.length) k l.length (Nat.le_refl _) hlF rfl (by omega)
  simp only [Nat.sub_self, List.replicate_zero, List.nil_append] at h
  rw [List.take_of_length_le (by simp)]
  exact h
 | succ d ih =>
  intro k i h1 hd hk
  obtain ⟨k, rfl⟩ : ∃ m, k = m + 1 := ⟨k - 1, by omega⟩
  have hi : i < l.length := by omega
  have hs := set_fillDyadicS (l.map cvDyadicS) F i (by simpa using hi) (by simpa using hlF)
  have hr : rd_T82 l (i : Int) = l[i] := by simp [rd_T82, hi]
  simp only [laws_toDyadicSW.l0]; rw [if_pos (by omega), if_pos (by omega), hr, show laws_toDyadic.f l[i].f0 l[i].f1 = some (l[i].f0, l[i].f1) from rfl, Option.bind_some, if_pos (by simp only [List.length_append, List.length_take, List.length_replicate, List.length_map]; omega), show wrap64 ((i : Int) + 1) = ((i + 1 : Nat) : Int) by unfold wrap64; omega, Int.toNat_natCast]
  have hc : (⟨l[i].f0, l[i].f1⟩ : S44) = (l.map cvDyadicS)[i]'(by simpa using hi) := by simp [cvDyadicS]
  change laws_toDyadicSW.l0 k l (((l.map cvDyadicS).take i ++ List.replicate (F - i) z44).set i (⟨l[i].f0, l[i].f1⟩ : S44)) _ = _
  rw [hc, hs]
  exact ih k (i + 1) (by omega) (by omega) (by omega)
theorem laws_toDyadicSW_j0 (l : List S82) (hn : l.length ≤ 1000000) (F : Nat) (hF : l.length + room l.length = F) (k : Nat) (hk : l.length + F + 2 < k) : laws_toDyadicSW.j0 (k + 1) l false = some (l.map cvDyadicS ++ List.replicate (F - l.length) fillDyadicS) := by
 have hr := room_le l.length
 have hw : wrap64 ((l.length : Int) + (room l.length : Int)) = (F : Int) := by unfold wrap64; omega
 have h := laws_toDyadicSW_l0 l F (by omega) (by omega) l.length k 0 (by omega) (by omega) hk
 simp only [laws_toDyadicSW.j0]
 rw [if_neg (by decide), roomBehind_eq, Option.bind_some, hw, if_pos (by omega), Int.toNat_natCast, if_pos (by omega)]
 simpa using h
theorem toDyadicS_whole (l : List S82) (hn : l.length ≤ 1000000) : ∃ k, laws_toDyadicSW.f k l false = some (padDyadicS l) := by
 refine ⟨(l.length + (l.length + room l.length) + 3) + 1, ?_⟩
 unfold laws_toDyadicSW.f
 rw [if_neg (by decide), laws_toDyadicSW_j0 l hn _ rfl _ (by omega)]
 unfold padDyadicS
 rw [show l.length + room l.length - l.length = room l.length by omega]
theorem toDyadicS_bare (l : List S82) (hn : l.length ≤ 1000000) : ∃ k, laws_toDyadicS.f k l true = some (l.map cvDyadicS) := by
 refine ⟨(l.length + (l.length + room l.length) + 3) + 1, ?_⟩
 unfold laws_toDyadicS.f
 rw [if_pos rfl]
 by_cases h : l = []
 ·subst h
  rfl
 ·have e : ((l.length : Int) == 0) = false := by
   have : 0 < l.length := List.length_pos_iff.2 h
   simp only [beq_eq_false_iff_ne]; omega
  rw [e]
  exact laws_toDyadicS_j0 l hn _ rfl _ (by omega)
theorem eqDyadic_self (a0 : Int) (a1 : Int) : laws_eqDyadic.f a0 a1 a0 a1 = some true := by unfold laws_eqDyadic.f; simp
theorem eqDyadicS_loop (l : List S44) (hn : l.length ≤ 1000000000) (d : Nat) : ∀ (k : Nat) (i : Nat), i ≤ l.length → l.length - i = d → d < k → laws_eqDyadicS.l0 k l l (i : Int) = some true := by
 induction d with
 | zero =>
  intro k i h0 hd hk
  obtain ⟨k, rfl⟩ : ∃ m, k = m + 1 := ⟨k - 1, by omega⟩
  simp only [laws_eqDyadicS.l0]; rw [if_neg (by omega)]
 | succ d ih =>
  intro k i h0 hd hk
  obtain ⟨k, rfl⟩ : ∃ m, k = m + 1 := ⟨k - 1, by omega⟩
  simp only [laws_eqDyadicS.l0]; rw [if_pos (by omega), if_pos (by omega), if_pos (by omega), eqDyadic_self, Option.bind_some, if_pos rfl, show wrap64 ((i : Int) + 1) = ((i + 1 : Nat) : Int) by unfold wrap64; omega]
  exact ih k (i + 1) (by omega) (by omega) (by omega)
theorem eqDyadicS_self (l : List S44) (hn : l.length ≤ 1000000000) : laws_eqDyadicS.f (l.length + 1) l l = some true := by
 unfold laws_eqDyadicS.f
 rw [if_pos rfl]
 exact eqDyadicS_loop l hn l.length (l.length + 1) 0 (by omega) (by omega) (by omega)
def laws_intactDyadicS.T2 : Bool × List (List Nat × List Nat) := (true, [([], []), ([0], [0]), ([], []), ([2], [2]), ([1, 3], [1, 3]), ([4], [4]), ([5], [5]), ([5], [5]), ([6, 7, 5], [5, 6, 7]), ([5], [5]), ([5], [5]), ([9, 10, 5], [5, 9, 10]), ([8, 11, 5, 5], [5, 8, 11]), ([5, 12], [5, 12]), ([13, 12, 0, 1, 2, 3, 4, 5, 6, 7, 8, 9, 10, 11, 12, 13], [13])])
def laws_intactDyadicS.B2 : List Nat := [0, 1, 0, 4, 15, 31, 63, 63, 255, 63, 63, 1599, 4095, 8191, 16383]
theorem laws_intactDyadicS.tab2 : rtab .any (opsOf Try.f15 2) = laws_intactDyadicS.T2 := by kernel_rfl
theorem laws_intactDyadicS.bits2 : waitsOk laws_intactDyadicS.T2.2 laws_intactDyadicS.B2 = true := by kernel_rfl
set_option maxHeartbeats 8000000 in
set_option maxRecDepth 100000 in
theorem laws_intactDyadicS.pad (k : Nat) (A0 A1 : Option Addr) (c0 c1 n : Nat) (p : List S44) (w : World) (hr0 : Kd.C k44 w A0 p.length p) (hc0 : p.length ≤ c0) (hr1 : Kd.C k44 w A1 p.length p) (hc1 : p.length ≤ c1) (hp : p.length = n + room n) (hn : n ≤ 1000000) (he : laws_eqDyadicS.f k p p = some true) :
 Calls Try.prog 15 #[.slice A0 n c0, .slice A1 n c1] w fun e w' => e = .returned (.bool true) ∧ Below w.heap.size w w' := by
 have hmb := room_le n
 have HR173 := Aside0.mk hr0
 have HC173 := Aside0.mk hc0
 have HR177 := Aside0.mk hr1
 have HC177 := Aside0.mk hc1
 have HB := Aside0.mk (Below.refl w.heap.size w)
 have A3 := Aside0.mk (roomBehind_eq n)
 have A10 := Aside0.mk he
 obtain ⟨ji5, hji5⟩ : ∃ j_ : Int, (wrap64 ((n : Int) + (room n : Int))) = j_ := ⟨_, rfl⟩
 have hje : ji5 = (p.length : Int) := by rw [← hji5, hp]; unfold wrap64; omega
 have hji5w : (IntKind.i64.wrap ((n : Int) + (room n : Int))) = ji5 := (i64_w _).trans hji5
 have c4b0 : ((n : Int) == (n : Int)) = true := by simp
 have c4b1 : ((n : Int) != (n : Int)) = false := by simp
 have c4b2 : (n == n) = true := by simp
 have c6b0 : (0 ≤ ji5) = True := eq_true (by omega)
 have c6b1 : decide (0 ≤ ji5) = true := decide_eq_true (by omega)
 obtain ⟨i0_, hi0_, _, hsz0_, _⟩ := info_parts info44
 have hcut12 := cut_room (P := Try.prog) 25 44 .i64 Try.underlying25 hi0_ A0 n c0 ji5 (by omega) (by omega)
 have hcut13 := cut_room (P := Try.prog) 25 44 .i64 Try.underlying25 hi0_ A1 n c1 ji5 (by omega) (by omega)
 rw [show ji5.toNat = p.length by omega] at hcut12 hcut13
 clear hmb hje hr0 hc0 hr1 hc1 he hp hi0_ hsz0_ hn
 go_enter Try.func15, Try.ntmps15
 try go_wp2_with (first | ((with_reducible refine gate_callee (f := 55) rfl ?_); refine goesL_ (some 10) rfl rfl Try.func55 kf rfl #[.int .i64 (n : Int)] rfl sm ?_; (with_reducible refine (laws_roomBehind.calls (n : Int) (room n : Int) _ A3.out).mono ?_); rintro e w' ⟨rfl, ⟨nd, rfl⟩⟩; refine ⟨_, rfl, ?_⟩))
 refine start_ (n := 15) (S := fun w' => True) (ds := []) #[fF, fF, fF, fF, fF, fF, fF, fF, fF, fF, fF, fF, fF, fF, fF] kf rfl rfl trivial (fun hHeld => ?_); refine with_tabW laws_intactDyadicS.tab2 laws_intactDyadicS.bits2 (fun HT_ HW_ => ?_)
 generalize hq_ : World.drew _ = w11 at hHeld ⊢
 have nHR173_ : Aside0 (Kd.C k44 w11 A0 p.length p) := ⟨by rw [← hq_]; exact (by repeat (first | exact HR173.out | (with_reducible refine Kd.C_alloc ?_ _) | (with_reducible refine Kd.C_drewN ?_ _) | (with_reducible refine Kd.C_drew ?_)))⟩
 have nHR177_ : Aside0 (Kd.C k44 w11 A1 p.length p) := ⟨by rw [← hq_]; exact (by repeat (first | exact HR177.out | (with_reducible refine Kd.C_alloc ?_ _) | (with_reducible refine Kd.C_drewN ?_ _) | (with_reducible refine Kd.C_drew ?_)))⟩
 have nHB_ : Aside0 (Below w.heap.size w w11) := ⟨by rw [← hq_]; exact bz⟩
 clear hq_ HR173 HR177 HB
 have HR173 := nHR173_
 have HR177 := nHR177_
 have HB := nHB_
 clear nHR173_ nHR177_ nHB_
 refine pq (i := 0) (N := some 12) #[tT, fF, fF, fF, fF, fF, fF, fF, fF, fF, fF, fF, fF, fF, fF] rfl rfl HT_.out ?_
 refine pq (i := 1) (N := some 13) #[tT, tT, fF, fF, fF, fF, fF, fF, fF, fF, fF, fF, fF, fF, fF] rfl rfl HT_.out ?_
 refine pq (i := 2) (N := some 14) #[tT, tT, tT, fF, fF, fF, fF, fF, fF, fF, fF, fF, fF, fF, fF] rfl rfl HT_.out ?_
 refine pq (i := 3) (N := some 15) #[tT, tT, tT, tT, fF, fF, fF, fF, fF, fF, fF, fF, fF, fF, fF] rfl rfl HT_.out ?_
 refine pq (i := 4) (N := some 16) #[tT, tT, tT, tT, tT, fF, fF, fF, fF, fF, fF, fF, fF, fF, fF] rfl rfl HT_.out ?_
 refine pq (i := 5) (N := some 17) #[tT, tT, tT, tT, tT, tT, fF, fF, fF, fF, fF, fF, fF, fF, fF] rfl rfl HT_.out ?_
 refine pq (i := 6) (N := some 18) #[tT, tT, tT, tT, tT, tT, tT, fF, fF, fF, fF, fF, fF, fF, fF] rfl rfl HT_.out ?_
 refine pq (i := 7) (N := some 19) #[tT, tT, tT, tT, tT, tT, tT, tT, fF, fF, fF, fF, fF, fF, fF] rfl rfl HT_.out ?_
 refine pq (i := 8) (N := some 20) #[tT, tT, tT, tT, tT, tT, tT, tT, tT, fF, fF, fF, fF, fF, fF] rfl rfl HT_.out ?_
 refine pq (i := 9) (N := some 21) #[tT, tT, tT, tT, tT, tT, tT, tT, tT, tT, fF, fF, fF, fF, fF] rfl rfl HT_.out ?_
 refine pq (i := 10) (N := some 22) #[tT, tT, tT, tT, tT, tT, tT, tT, tT, tT, tT, fF, fF, fF, fF] rfl rfl HT_.out ?_
 refine pq (i := 11) (N := some 23) #[tT, tT, tT, tT, tT, tT, tT, tT, tT, tT, tT, tT, fF, fF, fF] rfl rfl HT_.out ?_
 refine one_ (i := 12) (N := some 24) #[tT, tT, tT, tT, tT, tT, tT, tT, tT, tT, tT, tT, tT, fF, fF] rfl rfl (one_of HT_.out kf) (by decide) (fun K hK => ?_)
 refine goes_ Try.func59 kf rfl #[.slice A0 p.length c0, .slice A1 p.length c1] (by rfl) rfl rfl sm ?_
 with_reducible refine (laws_eqDyadicS.calls k _ _ p _ _ p true _ ?side1 ?side2 ?side3 ?side4 A10.out).mono ?_
 (case side1 => repeat (first | exact HR173.out | exact (Kd.C_below HR173.out HB.out) | (with_reducible refine Kd.C_alloc ?_ _) | (with_reducible refine Kd.C_drewN ?_ _) | (with_reducible refine Kd.C_drew ?_)))
 (case side2 => exact HC173.out)
 (case side3 => repeat (first | exact HR177.out | exact (Kd.C_below HR177.out HB.out) | (with_reducible refine Kd.C_alloc ?_ _) | (with_reducible refine Kd.C_drewN ?_ _) | (with_reducible refine Kd.C_drew ?_)))
 (case side4 => exact HC177.out)
 rintro e w14 ⟨rfl, hb⟩
 refine ⟨_, rfl, ?_⟩
 have n0_ := Aside0.mk (below_step bz hb)
 clear HB
 have HB := n0_
 clear n0_
 (try clear hb)
 (try clear hb2)
 (try clear hk)
 (try clear hi)
 refine hK.out _ _ trivial (fun hHeld => ?_)
 clear hK K
 refine norm_ (a' := ?_) ?_ ?_
 rotate_left
 ·show Act.put _ (some 24) _ = _
  simp only [Act.put, List.setIfInBounds_toArray, List.set_cons_zero, List.set_cons_succ, i64_w, i32_w]
  rfl
 refine pq (i := 13) (N := some 25) #[tT, tT, tT, tT, tT, tT, tT, tT, tT, tT, tT, tT, tT, tT, fF] rfl rfl HT_.out ?_
 refine pq (i := 14) (N := some 4) #[tT, tT, tT, tT, tT, tT, tT, tT, tT, tT, tT, tT, tT, tT, tT] rfl rfl HT_.out ?_
 refine done_ (done_of HT_.out kf) ?_
 try go_wp2
 go_ret
 exact ⟨by first | rfl | (simp [errW_none, errW_some] <;> rfl) | (simp only [← hji5]; first | rfl | (simp [errW_none, errW_some] <;> rfl)) | (simp [*, errW_none, errW_some] <;> rfl), bz⟩
theorem toDyadicS_pad (kw : Nat) (A0 : Option Addr) (c0 : Nat) (l : List S82) (q P : List S44) (w : World) (hr : Kd.C k82 w A0 l.length l) (hc : l.length ≤ c0) (hw : laws_toDyadicSW.f kw l false = some P) (hq : q.length = l.length) :
 Calls Try.prog 13 #[.slice A0 l.length c0, .bool false] w fun e w' => ∃ (A : Option Addr) (c : Nat), e = .returned (.slice A q.length c) ∧ Kd.R k44 44 w' w.heap.size (fun _ => True) (.slice A P.length c) P ∧ Below w.heap.size w w' := by
 refine (laws_toDyadicSW.calls kw A0 c0 l false P w hr hc hw).mono ?_
 rintro e w' ⟨A, c, he, h1, h2⟩
 exact ⟨A, c, by rw [hq]; exact he, h1, h2⟩
set_option maxHeartbeats 8000000 in
set_option maxRecDepth 100000 in
theorem law_walk (A0 : Option Addr) (c0 : Nat) (l0 : List S109) (A1 : Option Addr) (c1 : Nat) (l1 : List S82) (q0 P0 : List S107) (kw0 kb0 ke0 : Nat) (q1 P1 : List S44) (kw1 kb1 ke1 : Nat)  (w : World) (hr0 : Kd.C k109 w A0 l0.length l0) (hc0 : l0.length ≤ c0) (hr1 : Kd.C k82 w A1 l1.length l1) (hc1 : l1.length ≤ c1) (hw0 : laws_toTermSW.f kw0 l0 false = some P0) (hba0 : laws_toTermS.f kb0 l0 true = some q0) (hql0 : q0.length = l0.length) (hp0 : ∃ f, P0 = q0 ++ f) (hpl0 : P0.length = q0.length + room q0.length) (he0 : laws_eqTermS.f ke0 P0 P0 = some true) (hw1 : laws_toDyadicSW.f kw1 l1 false = some P1) (hba1 : laws_toDyadicS.f kb1 l1 true = some q1) (hql1 : q1.length = l1.length) (hp1 : ∃ f, P1 = q1 ++ f) (hpl1 : P1.length = q1.length + room q1.length) (he1 : laws_eqDyadicS.f ke1 P1 P1 = some true)  (hn : l0.length + l1.length ≤ 1000000) (ks ki : Nat) (r1_0 : Int) (r1_1 : Int) (r2 : Bool) (hs : spec_ValueAt.f ks q0 q1 = some (r1_0, r1_1, r2)) (hi : impl_ValueAt.f ki q0 q1 = some (r1_0, r1_1, r2)) :
 Calls Try.prog 8 #[.slice A0 l0.length c0, .slice A1 l1.length c1] w fun e w' => e = .returned (.bool true) ∧ Below w.heap.size w w' := by
 have HR0 := Aside0.mk hr0
 have HC0 := Aside0.mk hc0
 have hm0 := hr0.2.1
 have HR1 := Aside0.mk hr1
 have HC1 := Aside0.mk hc1
 have hm1 := hr1.2.1
 have HW0 := Aside0.mk hw0
 have HBA0 := Aside0.mk hba0
 have HQL0 := Aside0.mk hql0
 have HP0 := Aside0.mk hp0
 have HPL0 := Aside0.mk hpl0
 have HQN0 : Aside0 (q0.length ≤ 1000000) := ⟨by omega⟩
 have HE0 := Aside0.mk he0
 have HW1 := Aside0.mk hw1
 have HBA1 := Aside0.mk hba1
 have HQL1 := Aside0.mk hql1
 have HP1 := Aside0.mk hp1
 have HPL1 := Aside0.mk hpl1
 have HQN1 : Aside0 (q1.length ≤ 1000000) := ⟨by omega⟩
 have HE1 := Aside0.mk he1
 have HEQDyadic := Aside0.mk (eqDyadic_self r1_0 r1_1)
 obtain ⟨s0, hs0⟩ : ∃ s : Int, s = (1000000 : Int) - (l0.length : Int) := ⟨_, rfl⟩
 have hzs0 : laws_szTermS.f l0 1000000 = some s0 := by unfold laws_szTermS.f; rw [if_neg (by unfold wrap64; omega)]; congr 1; unfold wrap64; omega
 have HSZ0 := Aside0.mk hzs0
 have cs0 : decide (s0 < 0) = false := decide_eq_false (by omega)
 obtain ⟨s1, hs1⟩ : ∃ s : Int, s = (s0 : Int) - (l1.length : Int) := ⟨_, rfl⟩
 have hzs1 : laws_szDyadicS.f l1 s0 = some s1 := by unfold laws_szDyadicS.f; rw [if_neg (by unfold wrap64; omega)]; congr 1; unfold wrap64; omega
 have HSZ1 := Aside0.mk hzs1
 have cs1 : decide (s1 < 0) = false := decide_eq_false (by omega)
 have HS := Aside0.mk hs
 have HI := Aside0.mk hi
 have HB := Aside0.mk (Below.refl w.heap.size w)
 have Z := Aside0.mk (Nat.zero_le w.heap.size)
 clear hs hi hr0 hc0 hr1 hc1 hw0 hba0 hql0 hp0 hpl0 he0 hw1 hba1 hql1 hp1 hpl1 he1 hs0 hzs0 hs1 hzs1 hn hm0 hm1
 go_enter Try.func8, Try.ntmps8
 go_wp2_with (first
  | ((with_reducible refine gate_callee (f := 30) rfl ?_); refine goesL_ (some 16) rfl rfl Try.func30 kf rfl #[.slice A0 l0.length c0, .int .i64 1000000] rfl sm ?_; (with_reducible refine (laws_szTermS.calls _ _ l0 1000000 s0 _ ?side1 ?side2 HSZ0.out).mono ?_); (case side1 => repeat (first | exact HR0.out | exact (Kd.C_below HR0.out bz) | (with_reducible refine Kd.C_alloc ?_ _) | (with_reducible refine Kd.C_drewN ?_ _) | (with_reducible refine Kd.C_drew ?_))); (case side2 => exact HC0.out); rintro e w' ⟨rfl, ⟨nd, rfl⟩⟩; refine ⟨_, rfl, ?_⟩)
  | ((with_reducible refine gate_callee (f := 11) rfl ?_); refine goesL_ (some 21) rfl rfl Try.func11 kf rfl #[.slice A1 l1.length c1, .int .i64 s0] rfl sm ?_; (with_reducible refine (laws_szDyadicS.calls _ _ l1 s0 s1 _ ?side1 ?side2 HSZ1.out).mono ?_); (case side1 => repeat (first | exact HR1.out | exact (Kd.C_below HR1.out bz) | (with_reducible refine Kd.C_alloc ?_ _) | (with_reducible refine Kd.C_drewN ?_ _) | (with_reducible refine Kd.C_drew ?_))); (case side2 => exact HC1.out); rintro e w' ⟨rfl, ⟨nd, rfl⟩⟩; refine ⟨_, rfl, ?_⟩)
  | ((with_reducible refine gate_callee (f := 32) rfl ?_); refine goesL_ (some 26) rfl rfl Try.func32 kf rfl #[.slice A0 l0.length c0, .bool false] rfl sm ?_; (with_reducible refine (toTermS_pad kw0 _ _ l0 q0 P0 _ ?side1 ?side2 HW0.out HQL0.out).mono ?_); (case side1 => repeat (first | exact HR0.out | exact (Kd.C_below HR0.out bz) | (with_reducible refine Kd.C_alloc ?_ _) | (with_reducible refine Kd.C_drewN ?_ _) | (with_reducible refine Kd.C_drew ?_))); (case side2 => exact HC0.out); rintro e w1_ ⟨A1_, c1_, rfl, ho0, hb⟩; refine ⟨_, rfl, ?_⟩; obtain ⟨a1_0_, b1_0_, z1_, z2_, zo0_, z4_⟩ := made (by exact Z.out) bz hb ho0; clear HB Z; have O1_0 := Aside0.mk zo0_; have Q1_0 := Aside0.mk z1_; have HB := Aside0.mk z4_; have Z := Aside0.mk z2_; clear z1_ z2_ z4_ hb ho0 zo0_)
  | ((with_reducible refine gate_callee (f := 13) rfl ?_); refine goesL_ (some 28) rfl rfl Try.func13 kf rfl #[.slice A1 l1.length c1, .bool false] rfl sm ?_; (with_reducible refine (toDyadicS_pad kw1 _ _ l1 q1 P1 _ ?side1 ?side2 HW1.out HQL1.out).mono ?_); (case side1 => repeat (first | exact HR1.out | exact (Kd.C_below HR1.out bz) | (with_reducible refine Kd.C_alloc ?_ _) | (with_reducible refine Kd.C_drewN ?_ _) | (with_reducible refine Kd.C_drew ?_))); (case side2 => exact HC1.out); rintro e w2_ ⟨A2_, c2_, rfl, ho0, hb⟩; refine ⟨_, rfl, ?_⟩; obtain ⟨a2_0_, b2_0_, z1_, z2_, zo0_, z4_⟩ := made (by exact Z.out) bz hb ho0; have nO1_0_ := Aside0.mk (Kd.R_below (kr O1_0) hb); clear O1_0 HB Z; have O1_0 := nO1_0_; clear nO1_0_; have O2_0 := Aside0.mk zo0_; have Q2_0 := Aside0.mk z1_; have HB := Aside0.mk z4_; have Z := Aside0.mk z2_; clear z1_ z2_ z4_ hb ho0 zo0_)
  | ((with_reducible refine gate_callee (f := 37) rfl ?_); refine goesL_ (some 29) rfl rfl Try.func37 kf rfl #[.slice A1_ q0.length c1_, .slice A2_ q1.length c2_] rfl sm ?_; (with_reducible refine (spec_ValueAt.calls ks _ _ q0 _ _ q1 r1_0 r1_1 r2 _ ?side1 ?side2 ?side3 ?side4 HS.out).mono ?_); (case side1 => repeat (first | exact padr HP0.out O1_0.out | (with_reducible refine Kd.C_alloc ?_ _) | (with_reducible refine Kd.C_drewN ?_ _) | (with_reducible refine Kd.C_drew ?_))); (case side2 => exact padl HP0.out (Kd.R_reads' O1_0.out).2.1); (case side3 => repeat (first | exact padr HP1.out O2_0.out | (with_reducible refine Kd.C_alloc ?_ _) | (with_reducible refine Kd.C_drewN ?_ _) | (with_reducible refine Kd.C_drew ?_))); (case side4 => exact padl HP1.out (Kd.R_reads' O2_0.out).2.1); rintro e w3_ ⟨rfl, hb⟩; refine ⟨_, rfl, ?_⟩; obtain ⟨z2_, z4_⟩ := still (by exact Z.out) bz hb; have nO1_0_ := Aside0.mk (Kd.R_below (kr O1_0) hb); have nO2_0_ := Aside0.mk (Kd.R_below (kr O2_0) hb); clear O1_0 O2_0 HB Z; have O1_0 := nO1_0_; have O2_0 := nO2_0_; clear nO1_0_ nO2_0_; have HB := Aside0.mk z4_; have Z := Aside0.mk z2_; clear z2_ z4_ hb)
  | ((with_reducible refine gate_dst (N := 6) rfl ?_); refine bv (N := 6) (cs := #[.int .i64 0, .int .i64 0]) (t := 44) ?_; intro gb4_ hg w4_ hbox hb; obtain ⟨z2_, z4_⟩ := still (by exact Z.out) bz hb; have GB4 : Aside0 (b2_0_ ≤ gb4_) := ⟨by rw [hg]; exact Z.out⟩; have GE4 : Aside0 (w.heap.size ≤ gb4_) := ⟨by rw [hg]; exact (below_size bz)⟩; have nO1_0_ := Aside0.mk (Kd.R_below (kr O1_0) hb); have nO2_0_ := Aside0.mk (Kd.R_below (kr O2_0) hb); have BK4 := Aside0.mk hbox; clear O1_0 O2_0 HB Z; have O1_0 := nO1_0_; have O2_0 := nO2_0_; clear nO1_0_ nO2_0_; have HB := Aside0.mk z4_; have Z := Aside0.mk z2_; clear z2_ z4_ hb hg hbox; have hcz5_BK4_0 : w4_.cell? ⟨gb4_, 0, none⟩ = some (.int .i64 0) := (blk_cell BK4.out 0).trans rfl; have hfz5_BK4_0 := blk_frozen BK4.out 0; have hcz5_BK4_1 : w4_.cell? ⟨gb4_, 1, none⟩ = some (.int .i64 0) := (blk_cell BK4.out 1).trans rfl; have hfz5_BK4_1 := blk_frozen BK4.out 1)
  | ((with_reducible refine gate_store (t := 44) (p := 6) rfl ?_); refine store_event (t := 44) (p := 6) (v := ?vo_w6_) (w1 := ((w4_.setCell ⟨gb4_, 0, none⟩ (.int .i64 r1_0)).setCell ⟨gb4_, 1, none⟩ (.int .i64 r1_1))) ?hg ?ho ?hn ?hr ?_; (case ho => rfl); (case hg => rfl); (case hn => rfl); (case hr => first | (go_simp; done) | (go_simp; rfl)); intro w6_ hw; have hk := ((Kept.refl w4_ (fun k_ => k_ = gb4_)).setCell (p := ⟨gb4_, 0, none⟩) (.inl rfl) (.int .i64 r1_0)).setCell (p := ⟨gb4_, 1, none⟩) (.inl rfl) (.int .i64 r1_1); rw [← hw] at hk; have nO1_0_ := Aside0.mk (Kd.R_kept (kr O1_0) hk (fun k_ h1_ h2_ => by have := GB4.out; have := Q1_0.out; have := Q2_0.out; omega)); have nO2_0_ := Aside0.mk (Kd.R_kept (kr O2_0) hk (fun k_ h1_ h2_ => by have := GB4.out; have := Q1_0.out; have := Q2_0.out; omega)); have nBK4_ : Aside0 (w6_.heap[gb4_]? = some (.cells #[.int .i64 r1_0, .int .i64 r1_1] 44 (0, 0))) := ⟨by rw [hw]; exact (blk_put (cs' := #[.int .i64 r1_0, .int .i64 r1_1]) (blk_put (cs' := #[.int .i64 r1_0, .int .i64 0]) BK4.out 0 (.int .i64 r1_0) rfl) 1 (.int .i64 r1_1) rfl)⟩; have z2_ := Aside0.mk (Nat.le_trans (by exact Z.out) hk.1); have z4_ : Aside0 (Below w.heap.size w w6_) := ⟨by rw [hw]; exact (below_set (below_set HB.out GE4.out) GE4.out)⟩; clear O1_0 O2_0 BK4 HB Z; have O1_0 := nO1_0_; have O2_0 := nO2_0_; have BK4 := nBK4_; have HB := z4_; have Z := z2_; clear nO1_0_ nO2_0_ nBK4_ z2_ z4_ hk hw; (try clear hcz5_BK4_0 hfz5_BK4_0 hcz5_BK4_1 hfz5_BK4_1); have hcz7_BK4_0 : w6_.cell? ⟨gb4_, 0, none⟩ = some (.int .i64 r1_0) := (blk_cell BK4.out 0).trans rfl; have hfz7_BK4_0 := blk_frozen BK4.out 0; have hcz7_BK4_1 : w6_.cell? ⟨gb4_, 1, none⟩ = some (.int .i64 r1_1) := (blk_cell BK4.out 1).trans rfl; have hfz7_BK4_1 := blk_frozen BK4.out 1)
  | ((with_reducible refine gate_callee (f := 32) rfl ?_); refine goesL_ (some 33) rfl rfl Try.func32 kf rfl #[.slice A0 l0.length c0, .bool false] rfl sm ?_; (with_reducible refine (toTermS_pad kw0 _ _ l0 q0 P0 _ ?side1 ?side2 HW0.out HQL0.out).mono ?_); (case side1 => repeat (first | exact HR0.out | exact (Kd.C_below HR0.out bz) | (with_reducible refine Kd.C_alloc ?_ _) | (with_reducible refine Kd.C_drewN ?_ _) | (with_reducible refine Kd.C_drew ?_))); (case side2 => exact HC0.out); rintro e w8_ ⟨A8_, c8_, rfl, ho0, hb⟩; refine ⟨_, rfl, ?_⟩; obtain ⟨a8_0_, b8_0_, z1_, z2_, zo0_, z4_⟩ := made (by exact Z.out) bz hb ho0; have nO1_0_ := Aside0.mk (Kd.R_below (kr O1_0) hb); have nO2_0_ := Aside0.mk (Kd.R_below (kr O2_0) hb); have nBK4_ := bb BK4 hb; clear O1_0 O2_0 BK4 HB Z; have O1_0 := nO1_0_; have O2_0 := nO2_0_; have BK4 := nBK4_; clear nO1_0_ nO2_0_ nBK4_; have O8_0 := Aside0.mk zo0_; have Q8_0 := Aside0.mk z1_; have HB := Aside0.mk z4_; have Z := Aside0.mk z2_; clear z1_ z2_ z4_ hb ho0 zo0_; (try clear hcz7_BK4_0 hfz7_BK4_0 hcz7_BK4_1 hfz7_BK4_1); have hcz9_BK4_0 : w8_.cell? ⟨gb4_, 0, none⟩ = some (.int .i64 r1_0) := (blk_cell BK4.out 0).trans rfl; have hfz9_BK4_0 := blk_frozen BK4.out 0; have hcz9_BK4_1 : w8_.cell? ⟨gb4_, 1, none⟩ = some (.int .i64 r1_1) := (blk_cell BK4.out 1).trans rfl; have hfz9_BK4_1 := blk_frozen BK4.out 1)
  | ((with_reducible refine gate_callee (f := 13) rfl ?_); refine goesL_ (some 35) rfl rfl Try.func13 kf rfl #[.slice A1 l1.length c1, .bool false] rfl sm ?_; (with_reducible refine (toDyadicS_pad kw1 _ _ l1 q1 P1 _ ?side1 ?side2 HW1.out HQL1.out).mono ?_); (case side1 => repeat (first | exact HR1.out | exact (Kd.C_below HR1.out bz) | (with_reducible refine Kd.C_alloc ?_ _) | (with_reducible refine Kd.C_drewN ?_ _) | (with_reducible refine Kd.C_drew ?_))); (case side2 => exact HC1.out); rintro e w10_ ⟨A10_, c10_, rfl, ho0, hb⟩; refine ⟨_, rfl, ?_⟩; obtain ⟨a10_0_, b10_0_, z1_, z2_, zo0_, z4_⟩ := made (by exact Z.out) bz hb ho0; have nO1_0_ := Aside0.mk (Kd.R_below (kr O1_0) hb); have nO2_0_ := Aside0.mk (Kd.R_below (kr O2_0) hb); have nO8_0_ := Aside0.mk (Kd.R_below (kr O8_0) hb); have nBK4_ := bb BK4 hb; clear O1_0 O2_0 O8_0 BK4 HB Z; have O1_0 := nO1_0_; have O2_0 := nO2_0_; have O8_0 := nO8_0_; have BK4 := nBK4_; clear nO1_0_ nO2_0_ nO8_0_ nBK4_; have O10_0 := Aside0.mk zo0_; have Q10_0 := Aside0.mk z1_; have HB := Aside0.mk z4_; have Z := Aside0.mk z2_; clear z1_ z2_ z4_ hb ho0 zo0_; (try clear hcz9_BK4_0 hfz9_BK4_0 hcz9_BK4_1 hfz9_BK4_1); have hcz11_BK4_0 : w10_.cell? ⟨gb4_, 0, none⟩ = some (.int .i64 r1_0) := (blk_cell BK4.out 0).trans rfl; have hfz11_BK4_0 := blk_frozen BK4.out 0; have hcz11_BK4_1 : w10_.cell? ⟨gb4_, 1, none⟩ = some (.int .i64 r1_1) := (blk_cell BK4.out 1).trans rfl; have hfz11_BK4_1 := blk_frozen BK4.out 1)
  | ((with_reducible refine gate_callee (f := 38) rfl ?_); refine goesL_ (some 39) rfl rfl Try.func38 kf rfl #[.slice A8_ q0.length c8_, .slice A10_ q1.length c10_] rfl sm ?_; (with_reducible refine (impl_ValueAt.calls ki _ _ q0 _ _ q1 r1_0 r1_1 r2 _ ?side1 ?side2 ?side3 ?side4 HI.out).mono ?_); (case side1 => repeat (first | exact padr HP0.out O8_0.out | (with_reducible refine Kd.C_alloc ?_ _) | (with_reducible refine Kd.C_drewN ?_ _) | (with_reducible refine Kd.C_drew ?_))); (case side2 => exact padl HP0.out (Kd.R_reads' O8_0.out).2.1); (case side3 => repeat (first | exact padr HP1.out O10_0.out | (with_reducible refine Kd.C_alloc ?_ _) | (with_reducible refine Kd.C_drewN ?_ _) | (with_reducible refine Kd.C_drew ?_))); (case side4 => exact padl HP1.out (Kd.R_reads' O10_0.out).2.1); rintro e w12_ ⟨rfl, hb⟩; refine ⟨_, rfl, ?_⟩; obtain ⟨z2_, z4_⟩ := still (by exact Z.out) bz hb; have nO1_0_ := Aside0.mk (Kd.R_below (kr O1_0) hb); have nO2_0_ := Aside0.mk (Kd.R_below (kr O2_0) hb); have nO8_0_ := Aside0.mk (Kd.R_below (kr O8_0) hb); have nO10_0_ := Aside0.mk (Kd.R_below (kr O10_0) hb); have nBK4_ := bb BK4 hb; clear O1_0 O2_0 O8_0 O10_0 BK4 HB Z; have O1_0 := nO1_0_; have O2_0 := nO2_0_; have O8_0 := nO8_0_; have O10_0 := nO10_0_; have BK4 := nBK4_; clear nO1_0_ nO2_0_ nO8_0_ nO10_0_ nBK4_; have HB := Aside0.mk z4_; have Z := Aside0.mk z2_; clear z2_ z4_ hb; (try clear hcz11_BK4_0 hfz11_BK4_0 hcz11_BK4_1 hfz11_BK4_1); have hcz13_BK4_0 : w12_.cell? ⟨gb4_, 0, none⟩ = some (.int .i64 r1_0) := (blk_cell BK4.out 0).trans rfl; have hfz13_BK4_0 := blk_frozen BK4.out 0; have hcz13_BK4_1 : w12_.cell? ⟨gb4_, 1, none⟩ = some (.int .i64 r1_1) := (blk_cell BK4.out 1).trans rfl; have hfz13_BK4_1 := blk_frozen BK4.out 1)
  | ((with_reducible refine gate_dst (N := 10) rfl ?_); refine bv (N := 10) (cs := #[.int .i64 0, .int .i64 0]) (t := 44) ?_; intro gb14_ hg w14_ hbox hb; obtain ⟨z2_, z4_⟩ := still (by exact Z.out) bz hb; have GB14 : Aside0 (b10_0_ ≤ gb14_) := ⟨by rw [hg]; exact Z.out⟩; have GE14 : Aside0 (w.heap.size ≤ gb14_) := ⟨by rw [hg]; exact (below_size bz)⟩; have NBBK4_14 : Aside0 (gb4_ ≠ gb14_) := ⟨by rw [hg]; exact Nat.ne_of_lt (blk_lt (w := _) (o := .cells #[.int .i64 r1_0, .int .i64 r1_1] 44 (0, 0)) (bk BK4))⟩; have nO1_0_ := Aside0.mk (Kd.R_below (kr O1_0) hb); have nO2_0_ := Aside0.mk (Kd.R_below (kr O2_0) hb); have nO8_0_ := Aside0.mk (Kd.R_below (kr O8_0) hb); have nO10_0_ := Aside0.mk (Kd.R_below (kr O10_0) hb); have nBK4_ := bb BK4 hb; have BK14 := Aside0.mk hbox; clear O1_0 O2_0 O8_0 O10_0 BK4 HB Z; have O1_0 := nO1_0_; have O2_0 := nO2_0_; have O8_0 := nO8_0_; have O10_0 := nO10_0_; have BK4 := nBK4_; clear nO1_0_ nO2_0_ nO8_0_ nO10_0_ nBK4_; have HB := Aside0.mk z4_; have Z := Aside0.mk z2_; clear z2_ z4_ hb hg hbox; (try clear hcz13_BK4_0 hfz13_BK4_0 hcz13_BK4_1 hfz13_BK4_1); have hcz15_BK4_0 : w14_.cell? ⟨gb4_, 0, none⟩ = some (.int .i64 r1_0) := (blk_cell BK4.out 0).trans rfl; have hfz15_BK4_0 := blk_frozen BK4.out 0; have hcz15_BK4_1 : w14_.cell? ⟨gb4_, 1, none⟩ = some (.int .i64 r1_1) := (blk_cell BK4.out 1).trans rfl; have hfz15_BK4_1 := blk_frozen BK4.out 1; have hcz15_BK14_0 : w14_.cell? ⟨gb14_, 0, none⟩ = some (.int .i64 0) := (blk_cell BK14.out 0).trans rfl; have hfz15_BK14_0 := blk_frozen BK14.out 0; have hcz15_BK14_1 : w14_.cell? ⟨gb14_, 1, none⟩ = some (.int .i64 0) := (blk_cell BK14.out 1).trans rfl; have hfz15_BK14_1 := blk_frozen BK14.out 1)
  | ((with_reducible refine gate_store (t := 44) (p := 10) rfl ?_); refine store_event (t := 44) (p := 10) (v := ?vo_w16_) (w1 := ((w14_.setCell ⟨gb14_, 0, none⟩ (.int .i64 r1_0)).setCell ⟨gb14_, 1, none⟩ (.int .i64 r1_1))) ?hg ?ho ?hn ?hr ?_; (case ho => rfl); (case hg => rfl); (case hn => rfl); (case hr => first | (go_simp; done) | (go_simp; rfl)); intro w16_ hw; have hk := ((Kept.refl w14_ (fun k_ => k_ = gb14_)).setCell (p := ⟨gb14_, 0, none⟩) (.inl rfl) (.int .i64 r1_0)).setCell (p := ⟨gb14_, 1, none⟩) (.inl rfl) (.int .i64 r1_1); rw [← hw] at hk; have nO1_0_ := Aside0.mk (Kd.R_kept (kr O1_0) hk (fun k_ h1_ h2_ => by have := GB14.out; have := Q1_0.out; have := Q2_0.out; have := Q8_0.out; have := Q10_0.out; omega)); have nO2_0_ := Aside0.mk (Kd.R_kept (kr O2_0) hk (fun k_ h1_ h2_ => by have := GB14.out; have := Q1_0.out; have := Q2_0.out; have := Q8_0.out; have := Q10_0.out; omega)); have nO8_0_ := Aside0.mk (Kd.R_kept (kr O8_0) hk (fun k_ h1_ h2_ => by have := GB14.out; have := Q1_0.out; have := Q2_0.out; have := Q8_0.out; have := Q10_0.out; omega)); have nO10_0_ := Aside0.mk (Kd.R_kept (kr O10_0) hk (fun k_ h1_ h2_ => by have := GB14.out; have := Q1_0.out; have := Q2_0.out; have := Q8_0.out; have := Q10_0.out; omega)); have nBK4_ : Aside0 (w16_.heap[gb4_]? = some (.cells #[.int .i64 r1_0, .int .i64 r1_1] 44 (0, 0))) := ⟨by rw [hw]; exact (blk_far (blk_far BK4.out (p := ⟨gb14_, 0, none⟩) NBBK4_14.out _) (p := ⟨gb14_, 1, none⟩) NBBK4_14.out _)⟩; have nBK14_ : Aside0 (w16_.heap[gb14_]? = some (.cells #[.int .i64 r1_0, .int .i64 r1_1] 44 (0, 0))) := ⟨by rw [hw]; exact (blk_put (cs' := #[.int .i64 r1_0, .int .i64 r1_1]) (blk_put (cs' := #[.int .i64 r1_0, .int .i64 0]) BK14.out 0 (.int .i64 r1_0) rfl) 1 (.int .i64 r1_1) rfl)⟩; have z2_ := Aside0.mk (Nat.le_trans (by exact Z.out) hk.1); have z4_ : Aside0 (Below w.heap.size w w16_) := ⟨by rw [hw]; exact (below_set (below_set HB.out GE14.out) GE14.out)⟩; clear O1_0 O2_0 O8_0 O10_0 BK4 BK14 HB Z; have O1_0 := nO1_0_; have O2_0 := nO2_0_; have O8_0 := nO8_0_; have O10_0 := nO10_0_; have BK4 := nBK4_; have BK14 := nBK14_; have HB := z4_; have Z := z2_; clear nO1_0_ nO2_0_ nO8_0_ nO10_0_ nBK4_ nBK14_ z2_ z4_ hk hw; (try clear hcz15_BK4_0 hfz15_BK4_0 hcz15_BK4_1 hfz15_BK4_1 hcz15_BK14_0 hfz15_BK14_0 hcz15_BK14_1 hfz15_BK14_1); have hcz17_BK4_0 : w16_.cell? ⟨gb4_, 0, none⟩ = some (.int .i64 r1_0) := (blk_cell BK4.out 0).trans rfl; have hfz17_BK4_0 := blk_frozen BK4.out 0; have hcz17_BK4_1 : w16_.cell? ⟨gb4_, 1, none⟩ = some (.int .i64 r1_1) := (blk_cell BK4.out 1).trans rfl; have hfz17_BK4_1 := blk_frozen BK4.out 1; have hcz17_BK14_0 : w16_.cell? ⟨gb14_, 0, none⟩ = some (.int .i64 r1_0) := (blk_cell BK14.out 0).trans rfl; have hfz17_BK14_0 := blk_frozen BK14.out 0; have hcz17_BK14_1 : w16_.cell? ⟨gb14_, 1, none⟩ = some (.int .i64 r1_1) := (blk_cell BK14.out 1).trans rfl; have hfz17_BK14_1 := blk_frozen BK14.out 1)
  | ((with_reducible refine gate_callee (f := 28) rfl ?_); refine goesL_ (some 44) rfl rfl Try.func28 kf rfl #[.agg #[.int .i64 r1_0, .int .i64 r1_1], .agg #[.int .i64 r1_0, .int .i64 r1_1]] rfl sm ?_; (with_reducible refine (laws_eqDyadic.calls r1_0 r1_1 r1_0 r1_1 true _ HEQDyadic.out).mono ?_); rintro e w18_ ⟨rfl, hb⟩; refine ⟨_, rfl, ?_⟩; obtain ⟨z2_, z4_⟩ := still (by exact Z.out) bz hb; have nO1_0_ := Aside0.mk (Kd.R_below (kr O1_0) hb); have nO2_0_ := Aside0.mk (Kd.R_below (kr O2_0) hb); have nO8_0_ := Aside0.mk (Kd.R_below (kr O8_0) hb); have nO10_0_ := Aside0.mk (Kd.R_below (kr O10_0) hb); have nBK4_ := bb BK4 hb; have nBK14_ := bb BK14 hb; clear O1_0 O2_0 O8_0 O10_0 BK4 BK14 HB Z; have O1_0 := nO1_0_; have O2_0 := nO2_0_; have O8_0 := nO8_0_; have O10_0 := nO10_0_; have BK4 := nBK4_; have BK14 := nBK14_; clear nO1_0_ nO2_0_ nO8_0_ nO10_0_ nBK4_ nBK14_; have HB := Aside0.mk z4_; have Z := Aside0.mk z2_; clear z2_ z4_ hb; (try clear hcz17_BK4_0 hfz17_BK4_0 hcz17_BK4_1 hfz17_BK4_1 hcz17_BK14_0 hfz17_BK14_0 hcz17_BK14_1 hfz17_BK14_1); have hcz19_BK4_0 : w18_.cell? ⟨gb4_, 0, none⟩ = some (.int .i64 r1_0) := (blk_cell BK4.out 0).trans rfl; have hfz19_BK4_0 := blk_frozen BK4.out 0; have hcz19_BK4_1 : w18_.cell? ⟨gb4_, 1, none⟩ = some (.int .i64 r1_1) := (blk_cell BK4.out 1).trans rfl; have hfz19_BK4_1 := blk_frozen BK4.out 1; have hcz19_BK14_0 : w18_.cell? ⟨gb14_, 0, none⟩ = some (.int .i64 r1_0) := (blk_cell BK14.out 0).trans rfl; have hfz19_BK14_0 := blk_frozen BK14.out 0; have hcz19_BK14_1 : w18_.cell? ⟨gb14_, 1, none⟩ = some (.int .i64 r1_1) := (blk_cell BK14.out 1).trans rfl; have hfz19_BK14_1 := blk_frozen BK14.out 1)
  | ((with_reducible refine gate_callee (f := 32) rfl ?_); refine goesL_ (some 53) rfl rfl Try.func32 kf rfl #[.slice A0 l0.length c0, .bool false] rfl sm ?_; (with_reducible refine (toTermS_pad kw0 _ _ l0 q0 P0 _ ?side1 ?side2 HW0.out HQL0.out).mono ?_); (case side1 => repeat (first | exact HR0.out | exact (Kd.C_below HR0.out bz) | (with_reducible refine Kd.C_alloc ?_ _) | (with_reducible refine Kd.C_drewN ?_ _) | (with_reducible refine Kd.C_drew ?_))); (case side2 => exact HC0.out); rintro e w20_ ⟨A20_, c20_, rfl, ho0, hb⟩; refine ⟨_, rfl, ?_⟩; obtain ⟨a20_0_, b20_0_, z1_, z2_, zo0_, z4_⟩ := made (by exact Z.out) bz hb ho0; have nO1_0_ := Aside0.mk (Kd.R_below (kr O1_0) hb); have nO2_0_ := Aside0.mk (Kd.R_below (kr O2_0) hb); have nO8_0_ := Aside0.mk (Kd.R_below (kr O8_0) hb); have nO10_0_ := Aside0.mk (Kd.R_below (kr O10_0) hb); have nBK4_ := bb BK4 hb; have nBK14_ := bb BK14 hb; clear O1_0 O2_0 O8_0 O10_0 BK4 BK14 HB Z; have O1_0 := nO1_0_; have O2_0 := nO2_0_; have O8_0 := nO8_0_; have O10_0 := nO10_0_; have BK4 := nBK4_; have BK14 := nBK14_; clear nO1_0_ nO2_0_ nO8_0_ nO10_0_ nBK4_ nBK14_; have O20_0 := Aside0.mk zo0_; have Q20_0 := Aside0.mk z1_; have HB := Aside0.mk z4_; have Z := Aside0.mk z2_; clear z1_ z2_ z4_ hb ho0 zo0_; (try clear hcz19_BK4_0 hfz19_BK4_0 hcz19_BK4_1 hfz19_BK4_1 hcz19_BK14_0 hfz19_BK14_0 hcz19_BK14_1 hfz19_BK14_1); have hcz21_BK4_0 : w20_.cell? ⟨gb4_, 0, none⟩ = some (.int .i64 r1_0) := (blk_cell BK4.out 0).trans rfl; have hfz21_BK4_0 := blk_frozen BK4.out 0; have hcz21_BK4_1 : w20_.cell? ⟨gb4_, 1, none⟩ = some (.int .i64 r1_1) := (blk_cell BK4.out 1).trans rfl; have hfz21_BK4_1 := blk_frozen BK4.out 1; have hcz21_BK14_0 : w20_.cell? ⟨gb14_, 0, none⟩ = some (.int .i64 r1_0) := (blk_cell BK14.out 0).trans rfl; have hfz21_BK14_0 := blk_frozen BK14.out 0; have hcz21_BK14_1 : w20_.cell? ⟨gb14_, 1, none⟩ = some (.int .i64 r1_1) := (blk_cell BK14.out 1).trans rfl; have hfz21_BK14_1 := blk_frozen BK14.out 1)
  | ((with_reducible refine gate_callee (f := 34) rfl ?_); refine goesL_ (some 54) rfl rfl Try.func34 kf rfl #[.slice A8_ q0.length c8_, .slice A20_ q0.length c20_] rfl sm ?_; (with_reducible refine (laws_intactTermS.pad ke0 _ _ _ _ _ P0 _ ?side1 ?side2 ?side3 ?side4 HPL0.out HQN0.out HE0.out).mono ?_); (case side1 => exact (Kd.R_reads' (kr O8_0)).2.2); (case side2 => exact (Kd.R_reads' O8_0.out).2.1); (case side3 => exact (Kd.R_reads' (kr O20_0)).2.2); (case side4 => exact (Kd.R_reads' O20_0.out).2.1); rintro e w22_ ⟨rfl, hb⟩; refine ⟨_, rfl, ?_⟩; obtain ⟨z2_, z4_⟩ := still (by exact Z.out) bz hb; have nO1_0_ := Aside0.mk (Kd.R_below (kr O1_0) hb); have nO2_0_ := Aside0.mk (Kd.R_below (kr O2_0) hb); have nO8_0_ := Aside0.mk (Kd.R_below (kr O8_0) hb); have nO10_0_ := Aside0.mk (Kd.R_below (kr O10_0) hb); have nO20_0_ := Aside0.mk (Kd.R_below (kr O20_0) hb); have nBK4_ := bb BK4 hb; have nBK14_ := bb BK14 hb; clear O1_0 O2_0 O8_0 O10_0 O20_0 BK4 BK14 HB Z; have O1_0 := nO1_0_; have O2_0 := nO2_0_; have O8_0 := nO8_0_; have O10_0 := nO10_0_; have O20_0 := nO20_0_; have BK4 := nBK4_; have BK14 := nBK14_; clear nO1_0_ nO2_0_ nO8_0_ nO10_0_ nO20_0_ nBK4_ nBK14_; have HB := Aside0.mk z4_; have Z := Aside0.mk z2_; clear z2_ z4_ hb; (try clear hcz21_BK4_0 hfz21_BK4_0 hcz21_BK4_1 hfz21_BK4_1 hcz21_BK14_0 hfz21_BK14_0 hcz21_BK14_1 hfz21_BK14_1); have hcz23_BK4_0 : w22_.cell? ⟨gb4_, 0, none⟩ = some (.int .i64 r1_0) := (blk_cell BK4.out 0).trans rfl; have hfz23_BK4_0 := blk_frozen BK4.out 0; have hcz23_BK4_1 : w22_.cell? ⟨gb4_, 1, none⟩ = some (.int .i64 r1_1) := (blk_cell BK4.out 1).trans rfl; have hfz23_BK4_1 := blk_frozen BK4.out 1; have hcz23_BK14_0 : w22_.cell? ⟨gb14_, 0, none⟩ = some (.int .i64 r1_0) := (blk_cell BK14.out 0).trans rfl; have hfz23_BK14_0 := blk_frozen BK14.out 0; have hcz23_BK14_1 : w22_.cell? ⟨gb14_, 1, none⟩ = some (.int .i64 r1_1) := (blk_cell BK14.out 1).trans rfl; have hfz23_BK14_1 := blk_frozen BK14.out 1)
  | ((with_reducible refine gate_callee (f := 13) rfl ?_); refine goesL_ (some 58) rfl rfl Try.func13 kf rfl #[.slice A1 l1.length c1, .bool false] rfl sm ?_; (with_reducible refine (toDyadicS_pad kw1 _ _ l1 q1 P1 _ ?side1 ?side2 HW1.out HQL1.out).mono ?_); (case side1 => repeat (first | exact HR1.out | exact (Kd.C_below HR1.out bz) | (with_reducible refine Kd.C_alloc ?_ _) | (with_reducible refine Kd.C_drewN ?_ _) | (with_reducible refine Kd.C_drew ?_))); (case side2 => exact HC1.out); rintro e w24_ ⟨A24_, c24_, rfl, ho0, hb⟩; refine ⟨_, rfl, ?_⟩; obtain ⟨a24_0_, b24_0_, z1_, z2_, zo0_, z4_⟩ := made (by exact Z.out) bz hb ho0; have nO1_0_ := Aside0.mk (Kd.R_below (kr O1_0) hb); have nO2_0_ := Aside0.mk (Kd.R_below (kr O2_0) hb); have nO8_0_ := Aside0.mk (Kd.R_below (kr O8_0) hb); have nO10_0_ := Aside0.mk (Kd.R_below (kr O10_0) hb); have nO20_0_ := Aside0.mk (Kd.R_below (kr O20_0) hb); have nBK4_ := bb BK4 hb; have nBK14_ := bb BK14 hb; clear O1_0 O2_0 O8_0 O10_0 O20_0 BK4 BK14 HB Z; have O1_0 := nO1_0_; have O2_0 := nO2_0_; have O8_0 := nO8_0_; have O10_0 := nO10_0_; have O20_0 := nO20_0_; have BK4 := nBK4_; have BK14 := nBK14_; clear nO1_0_ nO2_0_ nO8_0_ nO10_0_ nO20_0_ nBK4_ nBK14_; have O24_0 := Aside0.mk zo0_; have Q24_0 := Aside0.mk z1_; have HB := Aside0.mk z4_; have Z := Aside0.mk z2_; clear z1_ z2_ z4_ hb ho0 zo0_; (try clear hcz23_BK4_0 hfz23_BK4_0 hcz23_BK4_1 hfz23_BK4_1 hcz23_BK14_0 hfz23_BK14_0 hcz23_BK14_1 hfz23_BK14_1); have hcz25_BK4_0 : w24_.cell? ⟨gb4_, 0, none⟩ = some (.int .i64 r1_0) := (blk_cell BK4.out 0).trans rfl; have hfz25_BK4_0 := blk_frozen BK4.out 0; have hcz25_BK4_1 : w24_.cell? ⟨gb4_, 1, none⟩ = some (.int .i64 r1_1) := (blk_cell BK4.out 1).trans rfl; have hfz25_BK4_1 := blk_frozen BK4.out 1; have hcz25_BK14_0 : w24_.cell? ⟨gb14_, 0, none⟩ = some (.int .i64 r1_0) := (blk_cell BK14.out 0).trans rfl; have hfz25_BK14_0 := blk_frozen BK14.out 0; have hcz25_BK14_1 : w24_.cell? ⟨gb14_, 1, none⟩ = some (.int .i64 r1_1) := (blk_cell BK14.out 1).trans rfl; have hfz25_BK14_1 := blk_frozen BK14.out 1)
  | ((with_reducible refine gate_callee (f := 15) rfl ?_); refine goesL_ (some 59) rfl rfl Try.func15 kf rfl #[.slice A10_ q1.length c10_, .slice A24_ q1.length c24_] rfl sm ?_; (with_reducible refine (laws_intactDyadicS.pad ke1 _ _ _ _ _ P1 _ ?side1 ?side2 ?side3 ?side4 HPL1.out HQN1.out HE1.out).mono ?_); (case side1 => exact (Kd.R_reads' (kr O10_0)).2.2); (case side2 => exact (Kd.R_reads' O10_0.out).2.1); (case side3 => exact (Kd.R_reads' (kr O24_0)).2.2); (case side4 => exact (Kd.R_reads' O24_0.out).2.1); rintro e w26_ ⟨rfl, hb⟩; refine ⟨_, rfl, ?_⟩; obtain ⟨z2_, z4_⟩ := still (by exact Z.out) bz hb; have nO1_0_ := Aside0.mk (Kd.R_below (kr O1_0) hb); have nO2_0_ := Aside0.mk (Kd.R_below (kr O2_0) hb); have nO8_0_ := Aside0.mk (Kd.R_below (kr O8_0) hb); have nO10_0_ := Aside0.mk (Kd.R_below (kr O10_0) hb); have nO20_0_ := Aside0.mk (Kd.R_below (kr O20_0) hb); have nO24_0_ := Aside0.mk (Kd.R_below (kr O24_0) hb); have nBK4_ := bb BK4 hb; have nBK14_ := bb BK14 hb; clear O1_0 O2_0 O8_0 O10_0 O20_0 O24_0 BK4 BK14 HB Z; have O1_0 := nO1_0_; have O2_0 := nO2_0_; have O8_0 := nO8_0_; have O10_0 := nO10_0_; have O20_0 := nO20_0_; have O24_0 := nO24_0_; have BK4 := nBK4_; have BK14 := nBK14_; clear nO1_0_ nO2_0_ nO8_0_ nO10_0_ nO20_0_ nO24_0_ nBK4_ nBK14_; have HB := Aside0.mk z4_; have Z := Aside0.mk z2_; clear z2_ z4_ hb; (try clear hcz25_BK4_0 hfz25_BK4_0 hcz25_BK4_1 hfz25_BK4_1 hcz25_BK14_0 hfz25_BK14_0 hcz25_BK14_1 hfz25_BK14_1); have hcz27_BK4_0 : w26_.cell? ⟨gb4_, 0, none⟩ = some (.int .i64 r1_0) := (blk_cell BK4.out 0).trans rfl; have hfz27_BK4_0 := blk_frozen BK4.out 0; have hcz27_BK4_1 : w26_.cell? ⟨gb4_, 1, none⟩ = some (.int .i64 r1_1) := (blk_cell BK4.out 1).trans rfl; have hfz27_BK4_1 := blk_frozen BK4.out 1; have hcz27_BK14_0 : w26_.cell? ⟨gb14_, 0, none⟩ = some (.int .i64 r1_0) := (blk_cell BK14.out 0).trans rfl; have hfz27_BK14_0 := blk_frozen BK14.out 0; have hcz27_BK14_1 : w26_.cell? ⟨gb14_, 1, none⟩ = some (.int .i64 r1_1) := (blk_cell BK14.out 1).trans rfl; have hfz27_BK14_1 := blk_frozen BK14.out 1)
  | ((with_reducible refine gate_callee (f := 32) rfl ?_); refine goesL_ (some 63) rfl rfl Try.func32 kf rfl #[.slice A0 l0.length c0, .bool true] rfl sm ?_; (with_reducible refine (laws_toTermS.calls kb0 _ _ l0 true q0 _ ?side1 ?side2 HBA0.out).mono ?_); (case side1 => repeat (first | exact HR0.out | exact (Kd.C_below HR0.out bz) | (with_reducible refine Kd.C_alloc ?_ _) | (with_reducible refine Kd.C_drewN ?_ _) | (with_reducible refine Kd.C_drew ?_))); (case side2 => exact HC0.out); rintro e w28_ ⟨v28_, rfl, ho0, hb⟩; refine ⟨_, rfl, ?_⟩; obtain ⟨a28_0_, b28_0_, z1_, z2_, zo0_, z4_⟩ := made (by exact Z.out) bz hb ho0; have nO1_0_ := Aside0.mk (Kd.R_below (kr O1_0) hb); have nO2_0_ := Aside0.mk (Kd.R_below (kr O2_0) hb); have nO8_0_ := Aside0.mk (Kd.R_below (kr O8_0) hb); have nO10_0_ := Aside0.mk (Kd.R_below (kr O10_0) hb); have nO20_0_ := Aside0.mk (Kd.R_below (kr O20_0) hb); have nO24_0_ := Aside0.mk (Kd.R_below (kr O24_0) hb); have nBK4_ := bb BK4 hb; have nBK14_ := bb BK14 hb; clear O1_0 O2_0 O8_0 O10_0 O20_0 O24_0 BK4 BK14 HB Z; have O1_0 := nO1_0_; have O2_0 := nO2_0_; have O8_0 := nO8_0_; have O10_0 := nO10_0_; have O20_0 := nO20_0_; have O24_0 := nO24_0_; have BK4 := nBK4_; have BK14 := nBK14_; clear nO1_0_ nO2_0_ nO8_0_ nO10_0_ nO20_0_ nO24_0_ nBK4_ nBK14_; have O28_0 := Aside0.mk zo0_; have Q28_0 := Aside0.mk z1_; have HB := Aside0.mk z4_; have Z := Aside0.mk z2_; clear z1_ z2_ z4_ hb ho0 zo0_; obtain ⟨A28_, c28_, e28_⟩ := Kd.R_slice O28_0.out; subst e28_; (try clear hcz27_BK4_0 hfz27_BK4_0 hcz27_BK4_1 hfz27_BK4_1 hcz27_BK14_0 hfz27_BK14_0 hcz27_BK14_1 hfz27_BK14_1); have hcz29_BK4_0 : w28_.cell? ⟨gb4_, 0, none⟩ = some (.int .i64 r1_0) := (blk_cell BK4.out 0).trans rfl; have hfz29_BK4_0 := blk_frozen BK4.out 0; have hcz29_BK4_1 : w28_.cell? ⟨gb4_, 1, none⟩ = some (.int .i64 r1_1) := (blk_cell BK4.out 1).trans rfl; have hfz29_BK4_1 := blk_frozen BK4.out 1; have hcz29_BK14_0 : w28_.cell? ⟨gb14_, 0, none⟩ = some (.int .i64 r1_0) := (blk_cell BK14.out 0).trans rfl; have hfz29_BK14_0 := blk_frozen BK14.out 0; have hcz29_BK14_1 : w28_.cell? ⟨gb14_, 1, none⟩ = some (.int .i64 r1_1) := (blk_cell BK14.out 1).trans rfl; have hfz29_BK14_1 := blk_frozen BK14.out 1)
  | ((with_reducible refine gate_callee (f := 13) rfl ?_); refine goesL_ (some 65) rfl rfl Try.func13 kf rfl #[.slice A1 l1.length c1, .bool true] rfl sm ?_; (with_reducible refine (laws_toDyadicS.calls kb1 _ _ l1 true q1 _ ?side1 ?side2 HBA1.out).mono ?_); (case side1 => repeat (first | exact HR1.out | exact (Kd.C_below HR1.out bz) | (with_reducible refine Kd.C_alloc ?_ _) | (with_reducible refine Kd.C_drewN ?_ _) | (with_reducible refine Kd.C_drew ?_))); (case side2 => exact HC1.out); rintro e w30_ ⟨v30_, rfl, ho0, hb⟩; refine ⟨_, rfl, ?_⟩; obtain ⟨a30_0_, b30_0_, z1_, z2_, zo0_, z4_⟩ := made (by exact Z.out) bz hb ho0; have nO1_0_ := Aside0.mk (Kd.R_below (kr O1_0) hb); have nO2_0_ := Aside0.mk (Kd.R_below (kr O2_0) hb); have nO8_0_ := Aside0.mk (Kd.R_below (kr O8_0) hb); have nO10_0_ := Aside0.mk (Kd.R_below (kr O10_0) hb); have nO20_0_ := Aside0.mk (Kd.R_below (kr O20_0) hb); have nO24_0_ := Aside0.mk (Kd.R_below (kr O24_0) hb); have nO28_0_ := Aside0.mk (Kd.R_below (kr O28_0) hb); have nBK4_ := bb BK4 hb; have nBK14_ := bb BK14 hb; clear O1_0 O2_0 O8_0 O10_0 O20_0 O24_0 O28_0 BK4 BK14 HB Z; have O1_0 := nO1_0_; have O2_0 := nO2_0_; have O8_0 := nO8_0_; have O10_0 := nO10_0_; have O20_0 := nO20_0_; have O24_0 := nO24_0_; have O28_0 := nO28_0_; have BK4 := nBK4_; have BK14 := nBK14_; clear nO1_0_ nO2_0_ nO8_0_ nO10_0_ nO20_0_ nO24_0_ nO28_0_ nBK4_ nBK14_; have O30_0 := Aside0.mk zo0_; have Q30_0 := Aside0.mk z1_; have HB := Aside0.mk z4_; have Z := Aside0.mk z2_; clear z1_ z2_ z4_ hb ho0 zo0_; obtain ⟨A30_, c30_, e30_⟩ := Kd.R_slice O30_0.out; subst e30_; (try clear hcz29_BK4_0 hfz29_BK4_0 hcz29_BK4_1 hfz29_BK4_1 hcz29_BK14_0 hfz29_BK14_0 hcz29_BK14_1 hfz29_BK14_1); have hcz31_BK4_0 : w30_.cell? ⟨gb4_, 0, none⟩ = some (.int .i64 r1_0) := (blk_cell BK4.out 0).trans rfl; have hfz31_BK4_0 := blk_frozen BK4.out 0; have hcz31_BK4_1 : w30_.cell? ⟨gb4_, 1, none⟩ = some (.int .i64 r1_1) := (blk_cell BK4.out 1).trans rfl; have hfz31_BK4_1 := blk_frozen BK4.out 1; have hcz31_BK14_0 : w30_.cell? ⟨gb14_, 0, none⟩ = some (.int .i64 r1_0) := (blk_cell BK14.out 0).trans rfl; have hfz31_BK14_0 := blk_frozen BK14.out 0; have hcz31_BK14_1 : w30_.cell? ⟨gb14_, 1, none⟩ = some (.int .i64 r1_1) := (blk_cell BK14.out 1).trans rfl; have hfz31_BK14_1 := blk_frozen BK14.out 1)
  | ((with_reducible refine gate_callee (f := 38) rfl ?_); refine goesL_ (some 66) rfl rfl Try.func38 kf rfl #[.slice A28_ q0.length c28_, .slice A30_ q1.length c30_] rfl sm ?_; (with_reducible refine (impl_ValueAt.calls ki _ _ q0 _ _ q1 r1_0 r1_1 r2 _ ?side1 ?side2 ?side3 ?side4 HI.out).mono ?_); (case side1 => exact cr O28_0); (case side2 => exact (Kd.R_reads' O28_0.out).2.1); (case side3 => exact cr O30_0); (case side4 => exact (Kd.R_reads' O30_0.out).2.1); rintro e w32_ ⟨rfl, hb⟩; refine ⟨_, rfl, ?_⟩; obtain ⟨z2_, z4_⟩ := still (by exact Z.out) bz hb; have nO1_0_ := Aside0.mk (Kd.R_below (kr O1_0) hb); have nO2_0_ := Aside0.mk (Kd.R_below (kr O2_0) hb); have nO8_0_ := Aside0.mk (Kd.R_below (kr O8_0) hb); have nO10_0_ := Aside0.mk (Kd.R_below (kr O10_0) hb); have nO20_0_ := Aside0.mk (Kd.R_below (kr O20_0) hb); have nO24_0_ := Aside0.mk (Kd.R_below (kr O24_0) hb); have nO28_0_ := Aside0.mk (Kd.R_below (kr O28_0) hb); have nO30_0_ := Aside0.mk (Kd.R_below (kr O30_0) hb); have nBK4_ := bb BK4 hb; have nBK14_ := bb BK14 hb; clear O1_0 O2_0 O8_0 O10_0 O20_0 O24_0 O28_0 O30_0 BK4 BK14 HB Z; have O1_0 := nO1_0_; have O2_0 := nO2_0_; have O8_0 := nO8_0_; have O10_0 := nO10_0_; have O20_0 := nO20_0_; have O24_0 := nO24_0_; have O28_0 := nO28_0_; have O30_0 := nO30_0_; have BK4 := nBK4_; have BK14 := nBK14_; clear nO1_0_ nO2_0_ nO8_0_ nO10_0_ nO20_0_ nO24_0_ nO28_0_ nO30_0_ nBK4_ nBK14_; have HB := Aside0.mk z4_; have Z := Aside0.mk z2_; clear z2_ z4_ hb; (try clear hcz31_BK4_0 hfz31_BK4_0 hcz31_BK4_1 hfz31_BK4_1 hcz31_BK14_0 hfz31_BK14_0 hcz31_BK14_1 hfz31_BK14_1); have hcz33_BK4_0 : w32_.cell? ⟨gb4_, 0, none⟩ = some (.int .i64 r1_0) := (blk_cell BK4.out 0).trans rfl; have hfz33_BK4_0 := blk_frozen BK4.out 0; have hcz33_BK4_1 : w32_.cell? ⟨gb4_, 1, none⟩ = some (.int .i64 r1_1) := (blk_cell BK4.out 1).trans rfl; have hfz33_BK4_1 := blk_frozen BK4.out 1; have hcz33_BK14_0 : w32_.cell? ⟨gb14_, 0, none⟩ = some (.int .i64 r1_0) := (blk_cell BK14.out 0).trans rfl; have hfz33_BK14_0 := blk_frozen BK14.out 0; have hcz33_BK14_1 : w32_.cell? ⟨gb14_, 1, none⟩ = some (.int .i64 r1_1) := (blk_cell BK14.out 1).trans rfl; have hfz33_BK14_1 := blk_frozen BK14.out 1)
  | ((with_reducible refine gate_dst (N := 12) rfl ?_); refine bv (N := 12) (cs := #[.int .i64 0, .int .i64 0]) (t := 44) ?_; intro gb34_ hg w34_ hbox hb; obtain ⟨z2_, z4_⟩ := still (by exact Z.out) bz hb; have GB34 : Aside0 (b30_0_ ≤ gb34_) := ⟨by rw [hg]; exact Z.out⟩; have GE34 : Aside0 (w.heap.size ≤ gb34_) := ⟨by rw [hg]; exact (below_size bz)⟩; have NBBK4_34 : Aside0 (gb4_ ≠ gb34_) := ⟨by rw [hg]; exact Nat.ne_of_lt (blk_lt (w := _) (o := .cells #[.int .i64 r1_0, .int .i64 r1_1] 44 (0, 0)) (bk BK4))⟩; have NBBK14_34 : Aside0 (gb14_ ≠ gb34_) := ⟨by rw [hg]; exact Nat.ne_of_lt (blk_lt (w := _) (o := .cells #[.int .i64 r1_0, .int .i64 r1_1] 44 (0, 0)) (bk BK14))⟩; have nO1_0_ := Aside0.mk (Kd.R_below (kr O1_0) hb); have nO2_0_ := Aside0.mk (Kd.R_below (kr O2_0) hb); have nO8_0_ := Aside0.mk (Kd.R_below (kr O8_0) hb); have nO10_0_ := Aside0.mk (Kd.R_below (kr O10_0) hb); have nO20_0_ := Aside0.mk (Kd.R_below (kr O20_0) hb); have nO24_0_ := Aside0.mk (Kd.R_below (kr O24_0) hb); have nO28_0_ := Aside0.mk (Kd.R_below (kr O28_0) hb); have nO30_0_ := Aside0.mk (Kd.R_below (kr O30_0) hb); have nBK4_ := bb BK4 hb; have nBK14_ := bb BK14 hb; have BK34 := Aside0.mk hbox; clear O1_0 O2_0 O8_0 O10_0 O20_0 O24_0 O28_0 O30_0 BK4 BK14 HB Z; have O1_0 := nO1_0_; have O2_0 := nO2_0_; have O8_0 := nO8_0_; have O10_0 := nO10_0_; have O20_0 := nO20_0_; have O24_0 := nO24_0_; have O28_0 := nO28_0_; have O30_0 := nO30_0_; have BK4 := nBK4_; have BK14 := nBK14_; clear nO1_0_ nO2_0_ nO8_0_ nO10_0_ nO20_0_ nO24_0_ nO28_0_ nO30_0_ nBK4_ nBK14_; have HB := Aside0.mk z4_; have Z := Aside0.mk z2_; clear z2_ z4_ hb hg hbox; (try clear hcz33_BK4_0 hfz33_BK4_0 hcz33_BK4_1 hfz33_BK4_1 hcz33_BK14_0 hfz33_BK14_0 hcz33_BK14_1 hfz33_BK14_1); have hcz35_BK4_0 : w34_.cell? ⟨gb4_, 0, none⟩ = some (.int .i64 r1_0) := (blk_cell BK4.out 0).trans rfl; have hfz35_BK4_0 := blk_frozen BK4.out 0; have hcz35_BK4_1 : w34_.cell? ⟨gb4_, 1, none⟩ = some (.int .i64 r1_1) := (blk_cell BK4.out 1).trans rfl; have hfz35_BK4_1 := blk_frozen BK4.out 1; have hcz35_BK14_0 : w34_.cell? ⟨gb14_, 0, none⟩ = some (.int .i64 r1_0) := (blk_cell BK14.out 0).trans rfl; have hfz35_BK14_0 := blk_frozen BK14.out 0; have hcz35_BK14_1 : w34_.cell? ⟨gb14_, 1, none⟩ = some (.int .i64 r1_1) := (blk_cell BK14.out 1).trans rfl; have hfz35_BK14_1 := blk_frozen BK14.out 1; have hcz35_BK34_0 : w34_.cell? ⟨gb34_, 0, none⟩ = some (.int .i64 0) := (blk_cell BK34.out 0).trans rfl; have hfz35_BK34_0 := blk_frozen BK34.out 0; have hcz35_BK34_1 : w34_.cell? ⟨gb34_, 1, none⟩ = some (.int .i64 0) := (blk_cell BK34.out 1).trans rfl; have hfz35_BK34_1 := blk_frozen BK34.out 1)
  | ((with_reducible refine gate_store (t := 44) (p := 12) rfl ?_); refine store_event (t := 44) (p := 12) (v := ?vo_w36_) (w1 := ((w34_.setCell ⟨gb34_, 0, none⟩ (.int .i64 r1_0)).setCell ⟨gb34_, 1, none⟩ (.int .i64 r1_1))) ?hg ?ho ?hn ?hr ?_; (case ho => rfl); (case hg => rfl); (case hn => rfl); (case hr => first | (go_simp; done) | (go_simp; rfl)); intro w36_ hw; have hk := ((Kept.refl w34_ (fun k_ => k_ = gb34_)).setCell (p := ⟨gb34_, 0, none⟩) (.inl rfl) (.int .i64 r1_0)).setCell (p := ⟨gb34_, 1, none⟩) (.inl rfl) (.int .i64 r1_1); rw [← hw] at hk; have nO1_0_ := Aside0.mk (Kd.R_kept (kr O1_0) hk (fun k_ h1_ h2_ => by have := GB34.out; have := Q1_0.out; have := Q2_0.out; have := Q8_0.out; have := Q10_0.out; have := Q20_0.out; have := Q24_0.out; have := Q28_0.out; have := Q30_0.out; omega)); have nO2_0_ := Aside0.mk (Kd.R_kept (kr O2_0) hk (fun k_ h1_ h2_ => by have := GB34.out; have := Q1_0.out; have := Q2_0.out; have := Q8_0.out; have := Q10_0.out; have := Q20_0.out; have := Q24_0.out; have := Q28_0.out; have := Q30_0.out; omega)); have nO8_0_ := Aside0.mk (Kd.R_kept (kr O8_0) hk (fun k_ h1_ h2_ => by have := GB34.out; have := Q1_0.out; have := Q2_0.out; have := Q8_0.out; have := Q10_0.out; have := Q20_0.out; have := Q24_0.out; have := Q28_0.out; have := Q30_0.out; omega)); have nO10_0_ := Aside0.mk (Kd.R_kept (kr O10_0) hk (fun k_ h1_ h2_ => by have := GB34.out; have := Q1_0.out; have := Q2_0.out; have := Q8_0.out; have := Q10_0.out; have := Q20_0.out; have := Q24_0.out; have := Q28_0.out; have := Q30_0.out; omega)); have nO20_0_ := Aside0.mk (Kd.R_kept (kr O20_0) hk (fun k_ h1_ h2_ => by have := GB34.out; have := Q1_0.out; have := Q2_0.out; have := Q8_0.out; have := Q10_0.out; have := Q20_0.out; have := Q24_0.out; have := Q28_0.out; have := Q30_0.out; omega)); have nO24_0_ := Aside0.mk (Kd.R_kept (kr O24_0) hk (fun k_ h1_ h2_ => by have := GB34.out; have := Q1_0.out; have := Q2_0.out; have := Q8_0.out; have := Q10_0.out; have := Q20_0.out; have := Q24_0.out; have := Q28_0.out; have := Q30_0.out; omega)); have nO28_0_ := Aside0.mk (Kd.R_kept (kr O28_0) hk (fun k_ h1_ h2_ => by have := GB34.out; have := Q1_0.out; have := Q2_0.out; have := Q8_0.out; have := Q10_0.out; have := Q20_0.out; have := Q24_0.out; have := Q28_0.out; have := Q30_0.out; omega)); have nO30_0_ := Aside0.mk (Kd.R_kept (kr O30_0) hk (fun k_ h1_ h2_ => by have := GB34.out; have := Q1_0.out; have := Q2_0.out; have := Q8_0.out; have := Q10_0.out; have := Q20_0.out; have := Q24_0.out; have := Q28_0.out; have := Q30_0.out; omega)); have nBK4_ : Aside0 (w36_.heap[gb4_]? = some (.cells #[.int .i64 r1_0, .int .i64 r1_1] 44 (0, 0))) := ⟨by rw [hw]; exact (blk_far (blk_far BK4.out (p := ⟨gb34_, 0, none⟩) NBBK4_34.out _) (p := ⟨gb34_, 1, none⟩) NBBK4_34.out _)⟩; have nBK14_ : Aside0 (w36_.heap[gb14_]? = some (.cells #[.int .i64 r1_0, .int .i64 r1_1] 44 (0, 0))) := ⟨by rw [hw]; exact (blk_far (blk_far BK14.out (p := ⟨gb34_, 0, none⟩) NBBK14_34.out _) (p := ⟨gb34_, 1, none⟩) NBBK14_34.out _)⟩; have nBK34_ : Aside0 (w36_.heap[gb34_]? = some (.cells #[.int .i64 r1_0, .int .i64 r1_1] 44 (0, 0))) := ⟨by rw [hw]; exact (blk_put (cs' := #[.int .i64 r1_0, .int .i64 r1_1]) (blk_put (cs' := #[.int .i64 r1_0, .int .i64 0]) BK34.out 0 (.int .i64 r1_0) rfl) 1 (.int .i64 r1_1) rfl)⟩; have z2_ := Aside0.mk (Nat.le_trans (by exact Z.out) hk.1); have z4_ : Aside0 (Below w.heap.size w w36_) := ⟨by rw [hw]; exact (below_set (below_set HB.out GE34.out) GE34.out)⟩; clear O1_0 O2_0 O8_0 O10_0 O20_0 O24_0 O28_0 O30_0 BK4 BK14 BK34 HB Z; have O1_0 := nO1_0_; have O2_0 := nO2_0_; have O8_0 := nO8_0_; have O10_0 := nO10_0_; have O20_0 := nO20_0_; have O24_0 := nO24_0_; have O28_0 := nO28_0_; have O30_0 := nO30_0_; have BK4 := nBK4_; have BK14 := nBK14_; have BK34 := nBK34_; have HB := z4_; have Z := z2_; clear nO1_0_ nO2_0_ nO8_0_ nO10_0_ nO20_0_ nO24_0_ nO28_0_ nO30_0_ nBK4_ nBK14_ nBK34_ z2_ z4_ hk hw; (try clear hcz35_BK4_0 hfz35_BK4_0 hcz35_BK4_1 hfz35_BK4_1 hcz35_BK14_0 hfz35_BK14_0 hcz35_BK14_1 hfz35_BK14_1 hcz35_BK34_0 hfz35_BK34_0 hcz35_BK34_1 hfz35_BK34_1); have hcz37_BK4_0 : w36_.cell? ⟨gb4_, 0, none⟩ = some (.int .i64 r1_0) := (blk_cell BK4.out 0).trans rfl; have hfz37_BK4_0 := blk_frozen BK4.out 0; have hcz37_BK4_1 : w36_.cell? ⟨gb4_, 1, none⟩ = some (.int .i64 r1_1) := (blk_cell BK4.out 1).trans rfl; have hfz37_BK4_1 := blk_frozen BK4.out 1; have hcz37_BK14_0 : w36_.cell? ⟨gb14_, 0, none⟩ = some (.int .i64 r1_0) := (blk_cell BK14.out 0).trans rfl; have hfz37_BK14_0 := blk_frozen BK14.out 0; have hcz37_BK14_1 : w36_.cell? ⟨gb14_, 1, none⟩ = some (.int .i64 r1_1) := (blk_cell BK14.out 1).trans rfl; have hfz37_BK14_1 := blk_frozen BK14.out 1; have hcz37_BK34_0 : w36_.cell? ⟨gb34_, 0, none⟩ = some (.int .i64 r1_0) := (blk_cell BK34.out 0).trans rfl; have hfz37_BK34_0 := blk_frozen BK34.out 0; have hcz37_BK34_1 : w36_.cell? ⟨gb34_, 1, none⟩ = some (.int .i64 r1_1) := (blk_cell BK34.out 1).trans rfl; have hfz37_BK34_1 := blk_frozen BK34.out 1)
  | ((with_reducible refine gate_callee (f := 28) rfl ?_); refine goesL_ (some 71) rfl rfl Try.func28 kf rfl #[.agg #[.int .i64 r1_0, .int .i64 r1_1], .agg #[.int .i64 r1_0, .int .i64 r1_1]] rfl sm ?_; (with_reducible refine (laws_eqDyadic.calls r1_0 r1_1 r1_0 r1_1 true _ HEQDyadic.out).mono ?_); rintro e w38_ ⟨rfl, hb⟩; refine ⟨_, rfl, ?_⟩; obtain ⟨z2_, z4_⟩ := still (by exact Z.out) bz hb; have nO1_0_ := Aside0.mk (Kd.R_below (kr O1_0) hb); have nO2_0_ := Aside0.mk (Kd.R_below (kr O2_0) hb); have nO8_0_ := Aside0.mk (Kd.R_below (kr O8_0) hb); have nO10_0_ := Aside0.mk (Kd.R_below (kr O10_0) hb); have nO20_0_ := Aside0.mk (Kd.R_below (kr O20_0) hb); have nO24_0_ := Aside0.mk (Kd.R_below (kr O24_0) hb); have nO28_0_ := Aside0.mk (Kd.R_below (kr O28_0) hb); have nO30_0_ := Aside0.mk (Kd.R_below (kr O30_0) hb); have nBK4_ := bb BK4 hb; have nBK14_ := bb BK14 hb; have nBK34_ := bb BK34 hb; clear O1_0 O2_0 O8_0 O10_0 O20_0 O24_0 O28_0 O30_0 BK4 BK14 BK34 HB Z; have O1_0 := nO1_0_; have O2_0 := nO2_0_; have O8_0 := nO8_0_; have O10_0 := nO10_0_; have O20_0 := nO20_0_; have O24_0 := nO24_0_; have O28_0 := nO28_0_; have O30_0 := nO30_0_; have BK4 := nBK4_; have BK14 := nBK14_; have BK34 := nBK34_; clear nO1_0_ nO2_0_ nO8_0_ nO10_0_ nO20_0_ nO24_0_ nO28_0_ nO30_0_ nBK4_ nBK14_ nBK34_; have HB := Aside0.mk z4_; have Z := Aside0.mk z2_; clear z2_ z4_ hb; (try clear hcz37_BK4_0 hfz37_BK4_0 hcz37_BK4_1 hfz37_BK4_1 hcz37_BK14_0 hfz37_BK14_0 hcz37_BK14_1 hfz37_BK14_1 hcz37_BK34_0 hfz37_BK34_0 hcz37_BK34_1 hfz37_BK34_1); have hcz39_BK4_0 : w38_.cell? ⟨gb4_, 0, none⟩ = some (.int .i64 r1_0) := (blk_cell BK4.out 0).trans rfl; have hfz39_BK4_0 := blk_frozen BK4.out 0; have hcz39_BK4_1 : w38_.cell? ⟨gb4_, 1, none⟩ = some (.int .i64 r1_1) := (blk_cell BK4.out 1).trans rfl; have hfz39_BK4_1 := blk_frozen BK4.out 1; have hcz39_BK14_0 : w38_.cell? ⟨gb14_, 0, none⟩ = some (.int .i64 r1_0) := (blk_cell BK14.out 0).trans rfl; have hfz39_BK14_0 := blk_frozen BK14.out 0; have hcz39_BK14_1 : w38_.cell? ⟨gb14_, 1, none⟩ = some (.int .i64 r1_1) := (blk_cell BK14.out 1).trans rfl; have hfz39_BK14_1 := blk_frozen BK14.out 1; have hcz39_BK34_0 : w38_.cell? ⟨gb34_, 0, none⟩ = some (.int .i64 r1_0) := (blk_cell BK34.out 0).trans rfl; have hfz39_BK34_0 := blk_frozen BK34.out 0; have hcz39_BK34_1 : w38_.cell? ⟨gb34_, 1, none⟩ = some (.int .i64 r1_1) := (blk_cell BK34.out 1).trans rfl; have hfz39_BK34_1 := blk_frozen BK34.out 1))
 go_ret
 exact ⟨by first | rfl | (simp; done), bz⟩
set_option maxHeartbeats 8000000 in
set_option maxRecDepth 100000 in
theorem law_big0 (A0 : Option Addr) (c0 : Nat) (l0 : List S109) (A1 : Option Addr) (c1 : Nat) (l1 : List S82) (w : World) (hr0 : Kd.C k109 w A0 l0.length l0) (hc0 : l0.length ≤ c0) (hr1 : Kd.C k82 w A1 l1.length l1) (hc1 : l1.length ≤ c1) (hn : ¬ l0.length ≤ 1000000) :
 Calls Try.prog 8 #[.slice A0 l0.length c0, .slice A1 l1.length c1] w fun e w' => e = .returned (.bool true) ∧ Below w.heap.size w w' := by
 have HR0 := Aside0.mk hr0; have HC0 := Aside0.mk hc0; have hm0 := hr0.2.1
 have HR1 := Aside0.mk hr1; have HC1 := Aside0.mk hc1; have hm1 := hr1.2.1
 obtain ⟨s0, hs0⟩ : ∃ s : Int, s = (-1) := ⟨_, rfl⟩
 have hzs0 : laws_szTermS.f l0 1000000 = some s0 := by unfold laws_szTermS.f; rw [if_pos (by unfold wrap64; omega), hs0]
 have HSZ0 := Aside0.mk hzs0
 have cs0 : decide (s0 < 0) = true := decide_eq_true (by omega)
 have HB := Aside0.mk (Below.refl w.heap.size w)
 have Z := Aside0.mk (Nat.zero_le w.heap.size)
 clear hn hr0 hc0 hm0 hr1 hc1 hm1 hs0 hzs0
 go_enter Try.func8, Try.ntmps8
 go_wp2_with (first
  | ((with_reducible refine gate_callee (f := 30) rfl ?_); refine goesL_ (some 16) rfl rfl Try.func30 kf rfl #[.slice A0 l0.length c0, .int .i64 1000000] rfl sm ?_; (with_reducible refine (laws_szTermS.calls _ _ l0 1000000 s0 _ ?side1 ?side2 HSZ0.out).mono ?_); (case side1 => repeat (first | exact HR0.out | exact (Kd.C_below HR0.out bz) | (with_reducible refine Kd.C_alloc ?_ _) | (with_reducible refine Kd.C_drewN ?_ _) | (with_reducible refine Kd.C_drew ?_))); (case side2 => exact HC0.out); rintro e w' ⟨rfl, ⟨nd, rfl⟩⟩; refine ⟨_, rfl, ?_⟩))
 go_ret
 exact ⟨by first | rfl | (simp; done), bz⟩
set_option maxHeartbeats 8000000 in
set_option maxRecDepth 100000 in
theorem law_big1 (A0 : Option Addr) (c0 : Nat) (l0 : List S109) (A1 : Option Addr) (c1 : Nat) (l1 : List S82) (w : World) (hr0 : Kd.C k109 w A0 l0.length l0) (hc0 : l0.length ≤ c0) (hr1 : Kd.C k82 w A1 l1.length l1) (hc1 : l1.length ≤ c1) (hn1 : l0.length ≤ 1000000) (hn : ¬ l0.length + l1.length ≤ 1000000) :
 Calls Try.prog 8 #[.slice A0 l0.length c0, .slice A1 l1.length c1] w fun e w' => e = .returned (.bool true) ∧ Below w.heap.size w w' := by
 have HR0 := Aside0.mk hr0; have HC0 := Aside0.mk hc0; have hm0 := hr0.2.1
 have HR1 := Aside0.mk hr1; have HC1 := Aside0.mk hc1; have hm1 := hr1.2.1
 obtain ⟨s0, hs0⟩ : ∃ s : Int, s = (1000000 : Int) - (l0.length : Int) := ⟨_, rfl⟩
 have hzs0 : laws_szTermS.f l0 1000000 = some s0 := by unfold laws_szTermS.f; rw [if_neg (by unfold wrap64; omega)]; congr 1; unfold wrap64; omega
 have HSZ0 := Aside0.mk hzs0
 have cs0 : decide (s0 < 0) = false := decide_eq_false (by omega)
 obtain ⟨s1, hs1⟩ : ∃ s : Int, s = (-1) := ⟨_, rfl⟩
 have hzs1 : laws_szDyadicS.f l1 s0 = some s1 := by unfold laws_szDyadicS.f; rw [if_pos (by unfold wrap64; omega), hs1]
 have HSZ1 := Aside0.mk hzs1
 have cs1 : decide (s1 < 0) = true := decide_eq_true (by omega)
 have HB := Aside0.mk (Below.refl w.heap.size w)
 have Z := Aside0.mk (Nat.zero_le w.heap.size)
 clear hn hn1 hr0 hc0 hm0 hr1 hc1 hm1 hs0 hzs0 hs1 hzs1
 go_enter Try.func8, Try.ntmps8
 go_wp2_with (first
  | ((with_reducible refine gate_callee (f := 30) rfl ?_); refine goesL_ (some 16) rfl rfl Try.func30 kf rfl #[.slice A0 l0.length c0, .int .i64 1000000] rfl sm ?_; (with_reducible refine (laws_szTermS.calls _ _ l0 1000000 s0 _ ?side1 ?side2 HSZ0.out).mono ?_); (case side1 => repeat (first | exact HR0.out | exact (Kd.C_below HR0.out bz) | (with_reducible refine Kd.C_alloc ?_ _) | (with_reducible refine Kd.C_drewN ?_ _) | (with_reducible refine Kd.C_drew ?_))); (case side2 => exact HC0.out); rintro e w' ⟨rfl, ⟨nd, rfl⟩⟩; refine ⟨_, rfl, ?_⟩)
  | ((with_reducible refine gate_callee (f := 11) rfl ?_); refine goesL_ (some 21) rfl rfl Try.func11 kf rfl #[.slice A1 l1.length c1, .int .i64 s0] rfl sm ?_; (with_reducible refine (laws_szDyadicS.calls _ _ l1 s0 s1 _ ?side1 ?side2 HSZ1.out).mono ?_); (case side1 => repeat (first | exact HR1.out | exact (Kd.C_below HR1.out bz) | (with_reducible refine Kd.C_alloc ?_ _) | (with_reducible refine Kd.C_drewN ?_ _) | (with_reducible refine Kd.C_drew ?_))); (case side2 => exact HC1.out); rintro e w' ⟨rfl, ⟨nd, rfl⟩⟩; refine ⟨_, rfl, ?_⟩))
 go_ret
 exact ⟨by first | rfl | (simp; done), bz⟩
def Pure : Prop := ∀ (l0 : List S109) (l1 : List S82), l0.length + l1.length ≤ 1000000 → ∃ (ks ki : Nat) (r1_0 : Int) (r1_1 : Int) (r2 : Bool), spec_ValueAt.f ks (l0.map cvTermS) (l1.map cvDyadicS) = some (r1_0, r1_1, r2) ∧ impl_ValueAt.f ki (l0.map cvTermS) (l1.map cvDyadicS) = some (r1_0, r1_1, r2)
theorem law_holds (P_ : Pure) (A0 : Option Addr) (c0 : Nat) (l0 : List S109) (A1 : Option Addr) (c1 : Nat) (l1 : List S82) (w : World) (hr0 : Kd.C k109 w A0 l0.length l0) (hc0 : l0.length ≤ c0) (hr1 : Kd.C k82 w A1 l1.length l1) (hc1 : l1.length ≤ c1) :
 Calls Try.prog 8 #[.slice A0 l0.length c0, .slice A1 l1.length c1] w fun e w' => e = .returned (.bool true) ∧ Below w.heap.size w w' := by
 by_cases hn0 : l0.length ≤ 1000000
 case neg => exact law_big0 A0 c0 l0 A1 c1 l1 w hr0 hc0 hr1 hc1 hn0
 by_cases hn1 : l0.length + l1.length ≤ 1000000
 case neg => exact law_big1 A0 c0 l0 A1 c1 l1 w hr0 hc0 hr1 hc1 hn0 hn1
 obtain ⟨ks, ki, r1_0, r1_1, r2, hs, hi⟩ := P_ l0 l1 hn1
 obtain ⟨kw0, hw0⟩ := toTermS_whole l0 (by omega)
 obtain ⟨kb0, hba0⟩ := toTermS_bare l0 (by omega)
 have hrm0 := room_le l0.length
 obtain ⟨kw1, hw1⟩ := toDyadicS_whole l1 (by omega)
 obtain ⟨kb1, hba1⟩ := toDyadicS_bare l1 (by omega)
 have hrm1 := room_le l1.length
 exact law_walk A0 c0 l0 A1 c1 l1 _ (padTermS l0) kw0 kb0 ((padTermS l0).length + 1) _ (padDyadicS l1) kw1 kb1 ((padDyadicS l1).length + 1)  w hr0 hc0 hr1 hc1 hw0 hba0 (by simp) ⟨_, rfl⟩ (by rw [padTermS_length, List.length_map]) (eqTermS_self _ (by rw [padTermS_length]; omega)) hw1 hba1 (by simp) ⟨_, rfl⟩ (by rw [padDyadicS_length, List.length_map]) (eqDyadicS_self _ (by rw [padDyadicS_length]; omega))  hn1 ks ki r1_0 r1_1 r2 hs hi
end Go.Proofs.Ytalcohajbcijlaa.QValueAt
