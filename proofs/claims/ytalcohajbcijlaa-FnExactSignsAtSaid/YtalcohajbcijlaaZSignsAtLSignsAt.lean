import Derived.Test.YtalcohajbcijlaaZSignsAtSq
import Derived.Test.YtalcohajbcijlaaZSignsAtQSiAx
namespace Go.Proofs.Ytalcohajbcijlaa.QSiA
open Go.RowKit Go.Proofs.YtalcohajbcijlaaW.PrintWords Go.Proofs.YtalcohajbcijlaaW.PrintLast Go.Proofs.YtalcohajbcijlaaW.PrintMore
set_option linter.unusedVariables false
set_option linter.unusedSimpArgs false
section
variable {P : Program} {ops : Array Oper} {rest : List Oper} {o : Oper} {a : Act} {Q : Exit → Act → World → Prop} {α : Type}
end
theorem cut_room {P : Program} (t e : TypeId) (kh : IntKind) {i : TypeInfo} (ht : P.underlying t = some (.slice e)) (hi : P.info? e = some i) (A : Option Addr) (n c : Nat) (j : Int) (h0 : 0 ≤ j) (hc : j ≤ c) :
 ∀ W : World, (Instr.slice t (.slice A n c) none (some (.int kh j)) none).run P W = .ok (.slice A j.toNat c) W := by
 intro W
 have hel : P.elem t = e := by simp [Program.elem, ht]
 have hu : P.underlying t = some (.slice (P.elem t)) := by rw [hel]; exact ht
 have ha : (A.map fun x => x.add 0) = A := by cases A <;> simp [Addr.add]
 rw [run_slice_h W t A n c hu kh j h0 hc, hel]
 simp [sizeOf, typeInfo, hi, sliced, Result.andThen, ha]
section
variable {α : Type} {d : Kd α}
theorem C_begin {w : World} {A : Option Addr} {n : Nat} {xs ys : List α} (h : d.C w A n (xs ++ ys)) : d.C w A xs.length xs := by
 obtain ⟨h1, h2, h3⟩ := h
 simp only [List.length_append] at h1
 refine ⟨rfl, by omega, fun hp => ?_⟩
 obtain ⟨ad, e, hc⟩ := h3 (by omega)
 refine ⟨ad, e, fun j p hj => hc j p ?_⟩
 rw [List.getElem?_append_left (List.getElem?_eq_some_iff.1 hj).1]
 exact hj
end
theorem made {α : Type} {d : Kd α} {e : Nat} {v : Value} {xs : List α} {w W W' : World} {bp : Nat} (hp : bp ≤ W.heap.size) (hB : Below w.heap.size w W) (hb : Below W.heap.size W W') (ho : d.R e W' W.heap.size (fun _ => True) v xs) :
 ∃ a b, (bp ≤ a ∧ a ≤ b) ∧ b ≤ W'.heap.size ∧ d.R e W' w.heap.size (fun k => a ≤ k ∧ k < b) v xs ∧ Below w.heap.size w W' :=
 ⟨W.heap.size, W'.heap.size, ⟨hp, hb.size⟩, Nat.le_refl _, Kd.R_lower (Kd.R_mono (Kd.R_bound ho) (fun k hk => ⟨hk.2.1, hk.2.2.1⟩)) hB.size, below_step hB hb⟩
theorem still {w W W' : World} {bp : Nat} (hp : bp ≤ W.heap.size) (hB : Below w.heap.size w W) (hb : Below W.heap.size W W') : bp ≤ W'.heap.size ∧ Below w.heap.size w W' := ⟨Nat.le_trans hp hb.size, below_step hB hb⟩
def room (n : Nat) : Nat := if n % 6 = 5 then 0 else if n % 3 = 0 then 1 else n
theorem room_le (n : Nat) : room n ≤ n + 1 := by unfold room; split <;> (try split) <;> omega
theorem roomBehind_eq (n : Nat) : laws_roomBehind.f (n : Int) = some (room n : Int) := by
 have h6 : Int.tmod (n : Int) 6 = ((n % 6 : Nat) : Int) := by rw [Int.tmod_eq_emod_of_nonneg (by omega)]; rfl
 have h3 : Int.tmod (n : Int) 3 = ((n % 3 : Nat) : Int) := by rw [Int.tmod_eq_emod_of_nonneg (by omega)]; rfl
 unfold laws_roomBehind.f room
 rw [h6, h3]
 by_cases a : n % 6 = 5
 ·rw [if_pos (by omega), if_pos a]; rfl
 ·rw [if_neg (by omega), if_neg a]
  by_cases b : n % 3 = 0
  ·rw [if_pos (by omega), if_pos b]; rfl
  ·rw [if_neg (by omega), if_neg b]
theorem eqIntS_loop (l : List Int) (hn : l.length ≤ 9223372036854775807) (d : Nat) : ∀ (k : Nat) (x : Int), 0 ≤ x → (l.length : Int) - x = d → d < k → laws_eqIntS.l0 k l l x = some true := by
 induction d with
 | zero =>
  intro k x h0 hd hk
  obtain ⟨k, rfl⟩ : ∃ m, k = m + 1 := ⟨k - 1, by omega⟩
  simp only [laws_eqIntS.l0]; rw [if_neg (by omega)]
 | succ d ih =>
  intro k x h0 hd hk
  obtain ⟨k, rfl⟩ : ∃ m, k = m + 1 := ⟨k - 1, by omega⟩
  simp only [laws_eqIntS.l0]; rw [if_pos (by omega), if_pos h0, if_pos (by omega), if_pos trivial, show wrap64 (x + 1) = x + 1 by unfold wrap64; omega]
  exact ih k (x + 1) (by omega) (by omega) (by omega)
theorem eqIntS_self (l : List Int) (hn : l.length ≤ 9223372036854775807) : laws_eqIntS.f (l.length + 1) l l = some true := by
 unfold laws_eqIntS.f
 rw [if_pos rfl]
 exact eqIntS_loop l hn l.length (l.length + 1) 0 (by omega) (by omega) (by omega)
theorem padr {α : Type} {d : Kd α} {e : Nat} {w : World} {b : Nat} {ok : Nat → Prop} {A : Option Addr} {c : Nat} {q P : List α} (hp : ∃ f, P = q ++ f) (h : d.R e w b ok (.slice A P.length c) P) : d.C w A q.length q := by
 obtain ⟨f, rfl⟩ := hp
 exact C_begin (Kd.R_reads' h).2.2
theorem padl {α : Type} {q P : List α} {c : Nat} (hp : ∃ f, P = q ++ f) (h : P.length ≤ c) : q.length ≤ c := by
 obtain ⟨f, rfl⟩ := hp
 simp at h; omega
theorem padseen {α : Type} {d : Kd α} {e : Nat} {w : World} {b : Nat} {ok : Nat → Prop} {A : Option Addr} {c : Nat} {q P : List α} (hp : ∃ f, P = q ++ f) (h : d.R e w b ok (.slice A P.length c) P) : d.R e w b ok (.slice A q.length c) q := by
 obtain ⟨f, rfl⟩ := hp
 have h2 := Kd.R_take h (show q.length ≤ (q ++ f).length by simp)
 have e_ : (q ++ f).take q.length = q := by simp
 rwa [e_] at h2
mutual
def laws_toTermSW.j0 : Nat → List (S109) → Bool → Option ((List (S107)))
 | 0, _, _ => none
 | k + 1, x0, x13 => if x13 = true then (none) else ((laws_roomBehind.f (x0.length : Int)).bind fun t246 => (if 0 ≤ (wrap64 ((x0.length : Int) + t246)) then (if (wrap64 ((x0.length : Int) + t246) : Int).toNat ≤ 8796093022208 then (laws_toTermSW.l0 k x0 (List.replicate (wrap64 ((x0.length : Int) + t246) : Int).toNat z107) 0) else (none)) else (none)))
def laws_toTermSW.l0 : Nat → List (S109) → List (S107) → Int → Option ((List (S107)))
 | 0, _, _, _ => none
 | k + 1, x0, x5, x6 => if x6 < (x0.length : Int) then (if 0 ≤ x6 then ((laws_toTerm.f ((rd_T109 x0 x6).f0) ((rd_T109 x0 x6).f1) ((rd_T109 x0 x6).f2) ((rd_T109 x0 x6).f3)).bind fun bt251 => (if x6 < (x5.length : Int) then (laws_toTermSW.l0 k x0 (x5.set (x6 : Int).toNat (⟨bt251.1, bt251.2.1, bt251.2.2.1, bt251.2.2.2⟩ : S107)) (wrap64 (x6 + 1))) else (none))) else (none)) else (laws_toTermSW.l1 k x0 x5 (x0.length : Int))
def laws_toTermSW.l1 : Nat → List (S109) → List (S107) → Int → Option ((List (S107)))
 | 0, _, _, _ => none
 | k + 1, x0, x5, x7 => if x7 < (x5.length : Int) then ((laws_fillerTerm.f).bind fun bt256 => (if 0 ≤ x7 then (laws_toTermSW.l1 k x0 (x5.set (x7 : Int).toNat (⟨bt256.1, bt256.2.1, bt256.2.2.1, bt256.2.2.2⟩ : S107)) (wrap64 (x7 + 1))) else (none))) else (if 0 ≤ (x0.length : Int) then (if (x0.length : Int) ≤ (x5.length : Int) then (some x5) else (none)) else (none))
end
def laws_toTermSW.f (k : Nat) (l0 : List (S109)) (a1 : Bool) : Option ((List (S107))) := if a1 = true then (laws_toTermSW.j0 k l0 ((l0.length : Int) == 0)) else (laws_toTermSW.j0 k l0 false)
set_option maxHeartbeats 8000000 in
set_option maxRecDepth 100000 in
theorem laws_toTermSW.calls (k : Nat) (A0 : Option Addr) (c0 : Nat) (l0 : List (S109)) (a1 : Bool) (r : List (S107)) (w : World) (hr0 : Kd.C k109 w A0 l0.length l0) (hc0 : l0.length ≤ c0) (h : laws_toTermSW.f k l0 a1 = some r) :
 Calls Try.prog 32 #[.slice A0 l0.length c0, .bool a1] w fun e w' => ∃ (Ac_ : Option Addr) (cc_ : Nat), e = .returned (.slice Ac_ l0.length cc_) ∧ Kd.R k107 107 w' w.heap.size (fun _ => True) (.slice Ac_ r.length cc_) r ∧ Below w.heap.size w w' := by
 have hu109 := Try.underlying109
 have hu107 := Try.underlying107
 have HR0 := Aside0.mk hr0
 have HC0 := Aside0.mk hc0
 clear hr0 hc0
 have HB := Aside0.mk (Below.refl w.heap.size w)
 have H : (if a1 = true then (laws_toTermSW.j0 k l0 ((l0.length : Int) == 0)) else (laws_toTermSW.j0 k l0 false)) = some r := h
 clear h
 have HC3 := Aside0.mk H
 clear H
 go_enter Try.func32, Try.ntmps32
 go_upto_region 1 with (fail)
 go_cut [13] (fun v13 wc => ∃ (kq : Nat) (x13_2 : Bool), v13 = .bool x13_2 ∧ Aside0 (laws_toTermSW.j0 kq l0 x13_2 = some r) ∧ Aside0 (kq ≤ k) ∧ Aside0 (Below w.heap.size w wc))
 case first =>
  have H := HC3.out
  clear HC3
  by_cases c4 : a1 = true
  ·subst c4
   rw [if_pos rfl] at H
   have H' := Aside0.mk H
   clear H
   go_wp2
   go_meet
   case rel => exact ⟨_, (((l0.length : Int) == 0)), sr, H', ⟨by first | omega | exact Nat.le_refl _⟩, ⟨bz⟩⟩
  ·replace c4 := Bool.eq_false_iff.mpr c4
   subst c4
   rw [if_neg (show ¬ (false = true) by decide)] at H
   have H' := Aside0.mk H
   clear H
   go_wp2
   go_meet
   case rel => exact ⟨_, (false), sr, H', ⟨by first | omega | exact Nat.le_refl _⟩, ⟨bz⟩⟩
 case rest =>
  clear HC3
  try clear p2; try clear c3; try clear c4
  obtain ⟨kq, x13_2, rfl, HA, HJ2, HB⟩ := hcut
  cases kq with
  | zero => exact absurd HA.out (by simp [laws_toTermSW.j0])
  | succ kj2 =>
   have H := HA.out
   clear HA
   simp only [laws_toTermSW.j0] at H
   by_cases c5 : x13_2 = true
   ·subst c5
    have H1 : none = some r := by rw [if_pos rfl] at H; exact H
    exact absurd H1 (by simp)
   ·replace c5 := Bool.eq_false_iff.mpr c5
    subst c5
    rw [if_neg (show ¬ (false = true) by decide)] at H
    obtain ⟨t246, A6, H⟩ := bi H
    obtain ⟨ji7, hji7⟩ : ∃ j_ : Int, (wrap64 ((l0.length : Int) + t246)) = j_ := ⟨_, rfl⟩
    first | rw [hji7] at H | simp only [hji7] at H
    (try rw [hji7] at A6)
    have hji7w : (IntKind.i64.wrap ((l0.length : Int) + t246)) = ji7 := (i64_w _).trans hji7
    by_cases c8 : 0 ≤ (ji7)
    ·rw [if_pos c8] at H
     have c8b0 := eq_true c8
     have c8b1 : decide (0 ≤ (ji7)) = true := decide_eq_true c8
     clear c8
     by_cases c9 : (ji7 : Int).toNat ≤ 8796093022208
     ·rw [if_pos c9] at H
      have c9b0 := eq_true c9
      have c9b1 : decide ((ji7 : Int).toNat ≤ 8796093022208) = true := decide_eq_true c9
      clear c9
      obtain ⟨y247, hy247⟩ : ∃ y_ : List (S107), y_ = (List.replicate (ji7 : Int).toNat z107) := ⟨_, rfl⟩
      replace H : (laws_toTermSW.l0 kj2 l0 y247 0) = some r := by first | (rw [hy247]; with_reducible exact H) | (have H2_ := (Option.bind_some _ _).symm.trans H; rw [hy247]; with_reducible exact H2_) | (have H2_ := (Option.bind_some _ _).symm.trans H; with_reducible exact H2_) | with_reducible exact H | (rw [hy247]; exact H) | exact H
      have Ny247 := Aside0.mk hy247
      clear hy247
      have H' := Aside0.mk H
      clear H
      go_wp2_with (first | ((with_reducible refine gate_callee (f := 55) rfl ?_); refine goesL_ (some 18) rfl rfl Try.func55 kf rfl #[.int .i64 (l0.length : Int)] rfl sm ?_; (with_reducible refine (laws_roomBehind.calls (l0.length : Int) t246 _ A6.out).mono ?_); rintro e w' ⟨rfl, ⟨nd, rfl⟩⟩; refine ⟨_, rfl, ?_⟩) | ((with_reducible refine gate_dst (N := 20) rfl ?_); (try (refine gate_guard (by rfl) ?_; dsimp only)); refine Kd.R_make k107 _ 107 rfl (N := 20) rfl 53 _ _ rfl ji7 rfl rfl Try.underlying53 (.agg #[(.int .i64 0), (.int .i64 0), (.int .i64 0), (.int .i64 0)]) 32 info107 rfl (by decide) (by omega) z107 (ok := fun _ => True) (okp := fun _ => True) (k107_mkM _ _ _ z107 ) (fun _ hk => hk) trivial (of_decide_eq_true am) (Nat.le_trans (Nat.mul_le_mul_right _ (of_decide_eq_true am : ji7.toNat ≤ 8796093022208)) (by omega)) (Below.refl _ _) (Nat.le_refl _) ?_; intro v248 w10 ho11 hb hg_ hnew_; clear hg_ hnew_; (first | rw [← Ny247.out] at ho11 | (simp only [Int.reduceToNat] at ho11; rw [← Ny247.out] at ho11)); have n0_ := Aside0.mk (Kd.R_lower ho11 (below_size bz)); have n1_ := Aside0.mk (below_step bz hb); clear HB; have HO249 := n0_; have HB := n1_; clear n0_ n1_; clear hb ho11))
      go_loopg [6] kj2 (fun kq v6 w' => ∃ (x5_2 : List (S107)) (x6_2 : Int), v6 = .int .i64 x6_2 ∧ Aside0 (laws_toTermSW.l0 kq l0 x5_2 x6_2 = some r) ∧ Aside0 (kq ≤ kj2) ∧ Aside0 (Kd.R k107 107 w' w.heap.size (fun _ => True) v248 x5_2) ∧ Aside0 (Below w.heap.size w w'))
      case atStart => exact ⟨(y247), (0), sr, H', ⟨Nat.le_refl _⟩, ⟨kr HO249⟩, ⟨bz⟩⟩
      case round =>
       clear H'
       try clear p2; try clear c3; try clear c4; try clear c5; try clear p6; try clear c8; try clear c8b0; try clear c8b1; try clear c9; try clear c9b0; try clear c9b1; try clear p2
       obtain ⟨x5_2, x6_2, rfl, HA, HK2, HO_5, HB⟩ := hrel
       cases gk with
       | zero => exact absurd HA.out (by simp [laws_toTermSW.l0])
       | succ k2 =>
        have H := HA.out
        clear HA
        simp only [laws_toTermSW.l0] at H
        by_cases c12 : x6_2 < (l0.length : Int)
        ·rw [if_pos c12] at H
         have c12b0 : decide (x6_2 < (l0.length : Int)) = true := decide_eq_true c12
         clear c12
         by_cases c13 : 0 ≤ x6_2
         ·rw [if_pos c13] at H
          have c13b0 : decide (0 ≤ x6_2) = true := decide_eq_true c13
          clear c13
          obtain ⟨⟨t251, t252, t253, t254⟩, A14, H⟩ := bi H
          try dsimp only at H
          by_cases c15 : x6_2 < (x5_2.length : Int)
          ·rw [if_pos c15] at H
           have c15b0 : decide (x6_2 < (x5_2.length : Int)) = true := decide_eq_true c15
           clear c15
           obtain ⟨y255, hy255⟩ : ∃ y_ : List (S107), y_ = (x5_2.set (x6_2 : Int).toNat (⟨t251, t252, t253, t254⟩ : S107)) := ⟨_, rfl⟩
           replace H : (laws_toTermSW.l0 k2 l0 y255 (wrap64 (x6_2 + 1))) = some r := by first | (rw [hy255]; with_reducible exact H) | (have H2_ := (Option.bind_some _ _).symm.trans H; rw [hy255]; with_reducible exact H2_) | (have H2_ := (Option.bind_some _ _).symm.trans H; with_reducible exact H2_) | with_reducible exact H | (rw [hy255]; exact H) | exact H
           have Ny255 := Aside0.mk hy255
           clear hy255
           have H' := Aside0.mk H
           clear H
           have p250 : 0 ≤ (x6_2 : Int) := of_decide_eq_true am
           have q250 : x6_2 < (l0.length : Int) := of_decide_eq_true am
           obtain ⟨ad250, e250, hx250_0, hx250_1, hx250_2, hx250_3⟩ := at_T109 HR0.out x6_2 p250 q250
           cases e250
           replace hx250_0 := (HB.out.cell (World.block_lt_of_cell? w _ hx250_0)).trans hx250_0
           replace hx250_1 := (HB.out.cell (World.block_lt_of_cell? w _ hx250_1)).trans hx250_1
           replace hx250_2 := (HB.out.cell (World.block_lt_of_cell? w _ hx250_2)).trans hx250_2
           replace hx250_3 := (HB.out.cell (World.block_lt_of_cell? w _ hx250_3)).trans hx250_3
           replace p250 := eq_true p250
           replace q250 := eq_true q250
           go_wp2_with (first | ((with_reducible refine gate_callee (f := 78) rfl ?_); refine goesL_ (some 33) rfl rfl Try.func78 kf rfl #[.agg #[.int .i64 ((rd_T109 l0 x6_2).f0), .int .i64 ((rd_T109 l0 x6_2).f1), .int .i64 ((rd_T109 l0 x6_2).f2), .int .i64 ((rd_T109 l0 x6_2).f3)]] rfl sm ?_; (with_reducible refine (laws_toTerm.calls ((rd_T109 l0 x6_2).f0) ((rd_T109 l0 x6_2).f1) ((rd_T109 l0 x6_2).f2) ((rd_T109 l0 x6_2).f3) t251 t252 t253 t254 _ A14.out).mono ?_); rintro e w17 ⟨rfl, hb⟩; refine ⟨_, rfl, ?_⟩; have n0_ := Aside0.mk (Kd.R_below (kr HO_5) hb); have n1_ := Aside0.mk (below_step bz hb); clear HO_5; clear HB; have HO_5 := n0_; have HB := n1_; clear n0_ n1_; (try clear hb); (try clear hb2); (try clear hk); (try clear hi); have p16 : 0 ≤ (x6_2 : Int) := of_decide_eq_true am; have q16 : (x6_2 : Int) < ((x5_2.length : Int) : Int) := of_decide_eq_true am; obtain ⟨go16, co16, eo16, gb16, gl16, cl16, HG16⟩ := Kd.R_form HO_5.out (by omega); (first | cases eo16 | (injection eo16 with ea_ en_ ec_; (first | subst ea_ | (injection ea_ with ea_; subst ea_)); subst ec_; clear en_)); have GB16 := Aside0.mk gb16; have GG16 := Aside0.mk HG16; clear gb16 gl16 HG16; obtain ⟨ce16, hcl16, hM16, hcc16, hfr16⟩ := Kd.R_elem HO_5.out z107 (x6_2 : Int) p16 q16; obtain rfl := k107_openM hM16; have hx16_0 : w17.cell? ⟨go16, (x6_2 : Int).toNat * 4, none⟩ = some (.int .i64 ((rd_T107 x5_2 x6_2).f0)) := hcc16 0 _ rfl; have hx16_1 : w17.cell? ⟨go16, (x6_2 : Int).toNat * 4 + 1, none⟩ = some (.int .i64 ((rd_T107 x5_2 x6_2).f1)) := hcc16 1 _ rfl; have hx16_2 : w17.cell? ⟨go16, (x6_2 : Int).toNat * 4 + 2, none⟩ = some (.int .i64 ((rd_T107 x5_2 x6_2).f2)) := hcc16 2 _ rfl; have hx16_3 : w17.cell? ⟨go16, (x6_2 : Int).toNat * 4 + 3, none⟩ = some (.int .i64 ((rd_T107 x5_2 x6_2).f3)) := hcc16 3 _ rfl; have hf16_0 : w17.frozen? ⟨go16, (x6_2 : Int).toNat * 4, none⟩ = false := hfr16 0; have hf16_1 : w17.frozen? ⟨go16, (x6_2 : Int).toNat * 4 + 1, none⟩ = false := hfr16 1; have hf16_2 : w17.frozen? ⟨go16, (x6_2 : Int).toNat * 4 + 2, none⟩ = false := hfr16 2; have hf16_3 : w17.frozen? ⟨go16, (x6_2 : Int).toNat * 4 + 3, none⟩ = false := hfr16 3; clear hcl16 hcc16 hfr16; (try clear hM16); replace p16 := eq_true p16; replace q16 := eq_true q16; have HX18 := Aside0.mk (show Kd.R k107 107 w17 w.heap.size (fun _ => True) (.slice (some ⟨go16, 0, none⟩) x5_2.length co16) x5_2 from (kr HO_5)); obtain ⟨ce18, hcl18, hM18, hcc18, hfr18⟩ := Kd.R_elem HX18.out z107 (x6_2 : Int) (of_decide_eq_true am) (by have h_ : (x6_2 : Int) < ((x5_2.length : Int) : Int) := of_decide_eq_true am; first | exact h_ | (have e_ := (Kd.R_reads' HO_5.out).1; omega) | simpa using h_); obtain rfl := k107_openM hM18; have HP18 := Kd.R_seg HX18.out (x6_2 : Int) (of_decide_eq_true am) (by have h_ : (x6_2 : Int) < ((x5_2.length : Int) : Int) := of_decide_eq_true am; first | exact h_ | (have e_ := (Kd.R_reads' HO_5.out).1; omega) | simpa using h_) (seg := [.int .i64 t251, .int .i64 t252, .int .i64 t253, .int .i64 t254]) (j := 0) hcl18 hcc18 (show 4 ≤ 4 from by decide) (x' := (⟨t251, t252, t253, t254⟩ : S107)) (k107_mkM _ _ _ (⟨t251, t252, t253, t254⟩ : S107) ) (fun _ hk => hk); have hx18_0 := hcc18 0 _ rfl; (try simp only [show (k107).sz = 4 from rfl, Nat.mul_one, Nat.add_zero] at hx18_0); have hf18_0 := hfr18 0; (try simp only [show (k107).sz = 4 from rfl, Nat.mul_one, Nat.add_zero] at hf18_0); have hx18_1 := hcc18 1 _ rfl; (try simp only [show (k107).sz = 4 from rfl, Nat.mul_one, Nat.add_zero] at hx18_1); have hf18_1 := hfr18 1; (try simp only [show (k107).sz = 4 from rfl, Nat.mul_one, Nat.add_zero] at hf18_1); have hx18_2 := hcc18 2 _ rfl; (try simp only [show (k107).sz = 4 from rfl, Nat.mul_one, Nat.add_zero] at hx18_2); have hf18_2 := hfr18 2; (try simp only [show (k107).sz = 4 from rfl, Nat.mul_one, Nat.add_zero] at hf18_2); have hx18_3 := hcc18 3 _ rfl; (try simp only [show (k107).sz = 4 from rfl, Nat.mul_one, Nat.add_zero] at hx18_3); have hf18_3 := hfr18 3; (try simp only [show (k107).sz = 4 from rfl, Nat.mul_one, Nat.add_zero] at hf18_3); clear hcl18 hcc18 hfr18 hM18) | ((with_reducible refine gate_store (t := 107) (p := 34) rfl ?_); refine store_event (t := 107) (p := 34) (v := ?vo_w19) (w1 := ((((w17.setCell ⟨go16, (x6_2 : Int).toNat * 4, none⟩ (.int .i64 t251)).setCell ⟨go16, (x6_2 : Int).toNat * 4 + 1, none⟩ (.int .i64 t252)).setCell ⟨go16, (x6_2 : Int).toNat * 4 + 2, none⟩ (.int .i64 t253)).setCell ⟨go16, (x6_2 : Int).toNat * 4 + 3, none⟩ (.int .i64 t254))) ?hg ?ho ?hn ?hr ?_; (case ho => rfl); (case hg => rfl); (case hn => rfl); (case hr => first | (go_simp; done) | (go_simp; rfl)); intro w19 hw; have hg : w17.grownBy w19 (some go16) := (by rw [hw]; exact HP18.2); have hp_ : Kd.R k107 107 w19 w.heap.size (fun _ => True) (.slice (some ⟨go16, 0, none⟩) x5_2.length co16) y255 := (by rw [hw, Ny255.out]; exact HP18.1); clear HP18; have n0_ := Aside0.mk (hp_); have n1_ := Aside0.mk ((by rw [hw]; exact below_set (below_set (below_set (below_set (HB.out) GB16.out) GB16.out) GB16.out) GB16.out : Below w.heap.size w w19)); clear HO_5; clear HB; have HO_5 := n0_; have HB := n1_; clear n0_ n1_; clear hg hw hp_))
           go_roundg k2
           case measure => have := HJ2.out; have := HK2.out; omega
           case rel => exact ⟨(y255), (wrap64 (x6_2 + 1)), sr, H', ⟨by have := HJ2.out; have := HK2.out; omega⟩, ⟨kr HO_5⟩, ⟨bz⟩⟩
          ·rw [if_neg c15] at H
           exact absurd H (by simp)
         ·rw [if_neg c13] at H
          exact absurd H (by simp)
        ·rw [if_neg c12] at H
         have c12b0 : decide (x6_2 < (l0.length : Int)) = false := decide_eq_false c12
         clear c12
         have H' := Aside0.mk H
         clear H
         go_wp2
         go_loopg [7] k2 (fun kq v7 w' => ∃ (x5_3 : List (S107)) (x7_3 : Int), v7 = .int .i64 x7_3 ∧ Aside0 (laws_toTermSW.l1 kq l0 x5_3 x7_3 = some r) ∧ Aside0 (kq ≤ k2) ∧ Aside0 (Kd.R k107 107 w' w.heap.size (fun _ => True) v248 x5_3) ∧ Aside0 (Below w.heap.size w w'))
         case atStart => exact ⟨(x5_2), ((l0.length : Int)), sr, H', ⟨Nat.le_refl _⟩, ⟨kr HO_5⟩, ⟨bz⟩⟩
         case round =>
          clear H'
          try clear c1; try clear p1; try clear q1; try clear hx1; try clear p2; try clear q2; try clear hx2; try clear c3; try clear c4; try clear c5; try clear p6; try clear c7; try clear c8; try clear c8b0; try clear c8b1; try clear c9; try clear c9b0; try clear c9b1; try clear c12; try clear c12b0; try clear c13; try clear c13b0; try clear c15; try clear c15b0; try clear c16; try clear p16; try clear q16; try clear hx16; try clear hf16; try clear c18; try clear hx18; try clear hf18; try clear hx16_0; try clear hx16_1; try clear hx16_2; try clear hx16_3; try clear hx18_0; try clear hx18_1; try clear hx18_2; try clear hx18_3; try clear hx250_0; try clear hx250_1; try clear hx250_2; try clear hx250_3; try clear p16; try clear p2; try clear p250; try clear p6; try clear q16; try clear q250
          obtain ⟨x5_3, x7_3, rfl, HA, HK3, HO_5, HB⟩ := hrel
          cases gk with
          | zero => exact absurd HA.out (by simp [laws_toTermSW.l1])
          | succ k3 =>
           have H := HA.out
           clear HA
           simp only [laws_toTermSW.l1] at H
           by_cases c20 : x7_3 < (x5_3.length : Int)
           ·rw [if_pos c20] at H
            have c20b0 : decide (x7_3 < (x5_3.length : Int)) = true := decide_eq_true c20
            clear c20
            obtain ⟨⟨t256, t257, t258, t259⟩, A21, H⟩ := bi H
            try dsimp only at H
            by_cases c22 : 0 ≤ x7_3
            ·rw [if_pos c22] at H
             have c22b0 : decide (0 ≤ x7_3) = true := decide_eq_true c22
             clear c22
             obtain ⟨y260, hy260⟩ : ∃ y_ : List (S107), y_ = (x5_3.set (x7_3 : Int).toNat (⟨t256, t257, t258, t259⟩ : S107)) := ⟨_, rfl⟩
             replace H : (laws_toTermSW.l1 k3 l0 y260 (wrap64 (x7_3 + 1))) = some r := by first | (rw [hy260]; with_reducible exact H) | (have H2_ := (Option.bind_some _ _).symm.trans H; rw [hy260]; with_reducible exact H2_) | (have H2_ := (Option.bind_some _ _).symm.trans H; with_reducible exact H2_) | with_reducible exact H | (rw [hy260]; exact H) | exact H
             have Ny260 := Aside0.mk hy260
             clear hy260
             have H' := Aside0.mk H
             clear H
             obtain ⟨Ao24, co24, eo24⟩ := Kd.R_slice HO_5.out
             subst eo24
             go_wp2_with (first | ((with_reducible refine gate_callee (f := 79) rfl ?_); refine goesL_ (some 45) rfl rfl Try.func79 kf rfl #[] rfl sm ?_; (with_reducible refine (laws_fillerTerm.calls  t256 t257 t258 t259 _ A21.out).mono ?_); rintro e w25 ⟨rfl, hb⟩; refine ⟨_, rfl, ?_⟩; have n0_ := Aside0.mk (Kd.R_below (kr HO_5) hb); have n1_ := Aside0.mk (below_step bz hb); clear HO_5; clear HB; have HO_5 := n0_; have HB := n1_; clear n0_ n1_; (try clear hb); (try clear hb2); (try clear hk); (try clear hi); have p23 : 0 ≤ (x7_3 : Int) := of_decide_eq_true am; have q23 : (x7_3 : Int) < ((x5_3.length : Int) : Int) := of_decide_eq_true am; obtain ⟨go23, co23, eo23, gb23, gl23, cl23, HG23⟩ := Kd.R_form HO_5.out (by omega); (first | cases eo23 | (injection eo23 with ea_ en_ ec_; (first | subst ea_ | (injection ea_ with ea_; subst ea_)); subst ec_; clear en_)); have GB23 := Aside0.mk gb23; have GG23 := Aside0.mk HG23; clear gb23 gl23 HG23; obtain ⟨ce23, hcl23, hM23, hcc23, hfr23⟩ := Kd.R_elem HO_5.out z107 (x7_3 : Int) p23 q23; obtain rfl := k107_openM hM23; have hx23_0 : w25.cell? ⟨go23, (x7_3 : Int).toNat * 4, none⟩ = some (.int .i64 ((rd_T107 x5_3 x7_3).f0)) := hcc23 0 _ rfl; have hx23_1 : w25.cell? ⟨go23, (x7_3 : Int).toNat * 4 + 1, none⟩ = some (.int .i64 ((rd_T107 x5_3 x7_3).f1)) := hcc23 1 _ rfl; have hx23_2 : w25.cell? ⟨go23, (x7_3 : Int).toNat * 4 + 2, none⟩ = some (.int .i64 ((rd_T107 x5_3 x7_3).f2)) := hcc23 2 _ rfl; have hx23_3 : w25.cell? ⟨go23, (x7_3 : Int).toNat * 4 + 3, none⟩ = some (.int .i64 ((rd_T107 x5_3 x7_3).f3)) := hcc23 3 _ rfl; have hf23_0 : w25.frozen? ⟨go23, (x7_3 : Int).toNat * 4, none⟩ = false := hfr23 0; have hf23_1 : w25.frozen? ⟨go23, (x7_3 : Int).toNat * 4 + 1, none⟩ = false := hfr23 1; have hf23_2 : w25.frozen? ⟨go23, (x7_3 : Int).toNat * 4 + 2, none⟩ = false := hfr23 2; have hf23_3 : w25.frozen? ⟨go23, (x7_3 : Int).toNat * 4 + 3, none⟩ = false := hfr23 3; clear hcl23 hcc23 hfr23; (try clear hM23); replace p23 := eq_true p23; replace q23 := eq_true q23; have HX26 := Aside0.mk (show Kd.R k107 107 w25 w.heap.size (fun _ => True) (.slice (some ⟨go23, 0, none⟩) x5_3.length co24) x5_3 from (kr HO_5)); obtain ⟨ce26, hcl26, hM26, hcc26, hfr26⟩ := Kd.R_elem HX26.out z107 (x7_3 : Int) (of_decide_eq_true am) (by have h_ : (x7_3 : Int) < ((x5_3.length : Int) : Int) := of_decide_eq_true am; first | exact h_ | (have e_ := (Kd.R_reads' HO_5.out).1; omega) | simpa using h_); obtain rfl := k107_openM hM26; have HP26 := Kd.R_seg HX26.out (x7_3 : Int) (of_decide_eq_true am) (by have h_ : (x7_3 : Int) < ((x5_3.length : Int) : Int) := of_decide_eq_true am; first | exact h_ | (have e_ := (Kd.R_reads' HO_5.out).1; omega) | simpa using h_) (seg := [.int .i64 t256, .int .i64 t257, .int .i64 t258, .int .i64 t259]) (j := 0) hcl26 hcc26 (show 4 ≤ 4 from by decide) (x' := (⟨t256, t257, t258, t259⟩ : S107)) (k107_mkM _ _ _ (⟨t256, t257, t258, t259⟩ : S107) ) (fun _ hk => hk); have hx26_0 := hcc26 0 _ rfl; (try simp only [show (k107).sz = 4 from rfl, Nat.mul_one, Nat.add_zero] at hx26_0); have hf26_0 := hfr26 0; (try simp only [show (k107).sz = 4 from rfl, Nat.mul_one, Nat.add_zero] at hf26_0); have hx26_1 := hcc26 1 _ rfl; (try simp only [show (k107).sz = 4 from rfl, Nat.mul_one, Nat.add_zero] at hx26_1); have hf26_1 := hfr26 1; (try simp only [show (k107).sz = 4 from rfl, Nat.mul_one, Nat.add_zero] at hf26_1); have hx26_2 := hcc26 2 _ rfl; (try simp only [show (k107).sz = 4 from rfl, Nat.mul_one, Nat.add_zero] at hx26_2); have hf26_2 := hfr26 2; (try simp only [show (k107).sz = 4 from rfl, Nat.mul_one, Nat.add_zero] at hf26_2); have hx26_3 := hcc26 3 _ rfl; (try simp only [show (k107).sz = 4 from rfl, Nat.mul_one, Nat.add_zero] at hx26_3); have hf26_3 := hfr26 3; (try simp only [show (k107).sz = 4 from rfl, Nat.mul_one, Nat.add_zero] at hf26_3); clear hcl26 hcc26 hfr26 hM26) | ((with_reducible refine gate_store (t := 107) (p := 46) rfl ?_); refine store_event (t := 107) (p := 46) (v := ?vo_w27) (w1 := ((((w25.setCell ⟨go23, (x7_3 : Int).toNat * 4, none⟩ (.int .i64 t256)).setCell ⟨go23, (x7_3 : Int).toNat * 4 + 1, none⟩ (.int .i64 t257)).setCell ⟨go23, (x7_3 : Int).toNat * 4 + 2, none⟩ (.int .i64 t258)).setCell ⟨go23, (x7_3 : Int).toNat * 4 + 3, none⟩ (.int .i64 t259))) ?hg ?ho ?hn ?hr ?_; (case ho => rfl); (case hg => rfl); (case hn => rfl); (case hr => first | (go_simp; done) | (go_simp; rfl)); intro w27 hw; have hg : w25.grownBy w27 (some go23) := (by rw [hw]; exact HP26.2); have hp_ : Kd.R k107 107 w27 w.heap.size (fun _ => True) (.slice (some ⟨go23, 0, none⟩) x5_3.length co24) y260 := (by rw [hw, Ny260.out]; exact HP26.1); clear HP26; have n0_ := Aside0.mk (hp_); have n1_ := Aside0.mk ((by rw [hw]; exact below_set (below_set (below_set (below_set (HB.out) GB23.out) GB23.out) GB23.out) GB23.out : Below w.heap.size w w27)); clear HO_5; clear HB; have HO_5 := n0_; have HB := n1_; clear n0_ n1_; clear hg hw hp_))
             go_roundg k3
             case measure => have := HJ2.out; have := HK2.out; have := HK3.out; omega
             case rel => exact ⟨(y260), (wrap64 (x7_3 + 1)), sr, H', ⟨by have := HJ2.out; have := HK2.out; have := HK3.out; omega⟩, ⟨kr HO_5⟩, ⟨bz⟩⟩
            ·rw [if_neg c22] at H
             exact absurd H (by simp)
           ·rw [if_neg c20] at H
            have c20b0 : decide (x7_3 < (x5_3.length : Int)) = false := decide_eq_false c20
            clear c20
            by_cases c28 : 0 ≤ (l0.length : Int)
            ·rw [if_pos c28] at H
             have c28b0 := eq_true c28
             have c28b1 : decide (0 ≤ (l0.length : Int)) = true := decide_eq_true c28
             clear c28
             by_cases c29 : (l0.length : Int) ≤ (x5_3.length : Int)
             ·rw [if_pos c29] at H
              have c29b0 := eq_true c29
              have c29b1 : decide ((l0.length : Int) ≤ (x5_3.length : Int)) = true := decide_eq_true c29
              clear c29
              obtain ⟨y261, hy261⟩ : ∃ y_ : List (S107), y_ = (x5_3.take ((l0.length : Int) : Int).toNat) := ⟨_, rfl⟩
              have Ny261 := Aside0.mk hy261
              clear hy261
              have HR_ := Aside0.mk (Option.some.inj H)
              obtain ⟨Ao30, co30, eo30⟩ := Kd.R_slice HO_5.out
              subst eo30
              have q31 : ((l0.length : Int) : Int) ≤ ((x5_3.length : Int) : Int) := of_decide_eq_true am
              obtain ⟨i031, hi031, _, hsz31, _⟩ := info_parts info107
              have hcut31 := cut_to (P := Try.prog) 53 107 .i64 Try.underlying53 hi031 Ao30 x5_3.length co30 (l0.length : Int) (of_decide_eq_true am) q31 (Kd.R_reads' HO_5.out).2.1
              have hr31 := Kd.R_take (m := ((l0.length : Int) : Int).toNat) HO_5.out (by omega)
              have hy31 : y261.length = ((l0.length : Int) : Int).toNat := (by rw [Ny261.out, List.length_take]; omega)
              rw [← Ny261.out] at hr31
              rw [← hy31] at hr31 hcut31
              have HY_ : Aside0 (y261.length = l0.length) := ⟨by rw [hy31]; simp⟩
              clear hy31 hi031 hsz31
              have HO263 := Aside0.mk hr31
              clear hr31
              replace q31 := eq_true q31
              go_wp2
              go_ret
              exact ⟨Ao30, co30, by first | rfl | (rw [HY_.out]; done) | (simp [HY_.out]; done), by rw [← HR_.out]; (with_reducible repeat (first | apply Kd.R_alloc | apply Kd.R_drewN | apply Kd.R_drew)); first | exact HO_5.out | exact Kd.R_mono HO_5.out (fun _ _ => trivial), bz⟩
             ·rw [if_neg c29] at H
              exact absurd H (by simp)
            ·rw [if_neg c28] at H
             exact absurd H (by simp)
     ·rw [if_neg c9] at H
      exact absurd H (by simp)
    ·rw [if_neg c8] at H
     exact absurd H (by simp)
def cvTermS (x : S109) : S107 := ⟨x.f0, x.f1, x.f2, x.f3⟩
def fillTermS : S107 := ⟨-7000000000000000101, -7000000000000000101, -7000000000000000101, -7000000000000000101⟩
def padTermS (l : List S109) : List S107 := l.map cvTermS ++ List.replicate (room l.length) fillTermS
theorem padTermS_length (l : List S109) : (padTermS l).length = l.length + room l.length := by simp [padTermS]
theorem set_fillTermS (Q : List S107) (F i : Nat) (h : i < Q.length) (hF : Q.length ≤ F) : (Q.take i ++ List.replicate (F - i) z107).set i Q[i] = Q.take (i + 1) ++ List.replicate (F - (i + 1)) z107 := by
 have h1 : F - i = (F - (i + 1)) + 1 := by omega
 rw [h1, List.replicate_succ, List.set_append_right _ _ (by simp; omega)]
 have h2 : i - (Q.take i).length = 0 := by simp; omega
 rw [h2, List.set_cons_zero, List.take_succ_eq_append_getElem h, List.append_assoc]
 rfl
theorem set_fill2TermS (Q : List S107) (F i : Nat) (h : Q.length ≤ i) (hF : i < F) : (Q ++ (List.replicate (i - Q.length) fillTermS ++ List.replicate (F - i) z107)).set i fillTermS = Q ++ (List.replicate (i + 1 - Q.length) fillTermS ++ List.replicate (F - (i + 1)) z107) := by
 have h1 : F - i = (F - (i + 1)) + 1 := by omega
 rw [List.set_append_right _ _ h, List.set_append_right _ _ (by simp), h1, List.replicate_succ]
 have h2 : i - Q.length - (List.replicate (i - Q.length) fillTermS).length = 0 := by simp
 rw [h2, List.set_cons_zero]
 have h3 : i + 1 - Q.length = (i - Q.length) + 1 := by omega
 rw [h3, List.replicate_succ', List.append_assoc]
 rfl
theorem laws_toTermS_l1 (l : List S109) (F : Nat) (hF : F ≤ 3000000) (hlF : l.length ≤ F) (d : Nat) : ∀ (k i : Nat), l.length ≤ i → i ≤ F → F - i = d → d < k → laws_toTermS.l1 k l (l.map cvTermS ++ (List.replicate (i - l.length) fillTermS ++ List.replicate (F - i) z107)) (i : Int) = some (l.map cvTermS) := by
 induction d with
 | zero =>
  intro k i h0 h1 hd hk
  obtain ⟨k, rfl⟩ : ∃ m, k = m + 1 := ⟨k - 1, by omega⟩
  have e : i = F := by omega
  subst e
  simp only [laws_toTermS.l1]; rw [if_neg (by simp only [List.length_append, List.length_replicate, List.length_map]; omega), if_pos (by omega), if_pos (by simp only [List.length_append, List.length_replicate, List.length_map]; omega)]
  simp
 | succ d ih =>
  intro k i h0 h1 hd hk
  obtain ⟨k, rfl⟩ : ∃ m, k = m + 1 := ⟨k - 1, by omega⟩
  have hs := set_fill2TermS (l.map cvTermS) F i (by simpa using h0) (by omega)
  simp only [List.length_map] at hs
  simp only [laws_toTermS.l1]; rw [if_pos (by simp only [List.length_append, List.length_replicate, List.length_map]; omega), show laws_fillerTerm.f = some ((-7000000000000000101), (-7000000000000000101), (-7000000000000000101), (-7000000000000000101)) from rfl, Option.bind_some, if_pos (by omega), show wrap64 ((i : Int) + 1) = ((i + 1 : Nat) : Int) by unfold wrap64; omega, Int.toNat_natCast]
  change laws_toTermS.l1 k l ((l.map cvTermS ++ (List.replicate (i - l.length) fillTermS ++ List.replicate (F - i) z107)).set i fillTermS) _ = _
  rw [hs]
  exact ih k (i + 1) (by omega) (by omega) (by omega) (by omega)
theorem laws_toTermS_l0 (l : List S109) (F : Nat) (hF : F ≤ 3000000) (hlF : l.length ≤ F) (d : Nat) : ∀ (k i : Nat), i ≤ l.length → l.length - i = d → d + F + 2 < k → laws_toTermS.l0 k l ((l.map cvTermS).take i ++ List.replicate (F - i) z107) (i : Int) = some (l.map cvTermS) := by
 induction d with
 | zero =>
  intro k i h1 hd hk
  obtain ⟨k, rfl⟩ : ∃ m, k = m + 1 := ⟨k - 1, by omega⟩
  have e : i = l.length := by omega
  subst e
  simp only [laws_toTermS.l0]; rw [if_neg (by omega)]
  have h := laws_toTermS_l1 l F hF hlF (F - l.length) k l.length (Nat.le_refl _) hlF rfl (by omega)
  simp only [Nat.sub_self, List.replicate_zero, List.nil_append] at h
  rw [List.take_of_length_le (by simp)]
  exact h
 | succ d ih =>
  intro k i h1 hd hk
  obtain ⟨k, rfl⟩ : ∃ m, k = m + 1 := ⟨k - 1, by omega⟩
  have hi : i < l.length := by omega
  have hs := set_fillTermS (l.map cvTermS) F i (by simpa using hi) (by simpa using hlF)
  have hr : rd_T109 l (i : Int) = l[i] := by simp [rd_T109, hi]
  simp only [laws_toTermS.l0]; rw [if_pos (by omega), if_pos (by omega), hr, show laws_toTerm.f l[i].f0 l[i].f1 l[i].f2 l[i].f3 = some (l[i].f0, l[i].f1, l[i].f2, l[i].f3) from rfl, Option.bind_some, if_pos (by simp only [List.length_append, List.length_take, List.length_replicate, List.length_map]; omega), show wrap64 ((i : Int) + 1) = ((i + 1 : Nat) : Int) by unfold wrap64; omega, Int.toNat_natCast]
  have hc : (⟨l[i].f0, l[i].f1, l[i].f2, l[i].f3⟩ : S107) = (l.map cvTermS)[i]'(by simpa using hi) := by simp [cvTermS]
  change laws_toTermS.l0 k l (((l.map cvTermS).take i ++ List.replicate (F - i) z107).set i (⟨l[i].f0, l[i].f1, l[i].f2, l[i].f3⟩ : S107)) _ = _
  rw [hc, hs]
  exact ih k (i + 1) (by omega) (by omega) (by omega)
theorem laws_toTermS_j0 (l : List S109) (hn : l.length ≤ 1000000) (F : Nat) (hF : l.length + room l.length = F) (k : Nat) (hk : l.length + F + 2 < k) : laws_toTermS.j0 (k + 1) l false = some (l.map cvTermS) := by
 have hr := room_le l.length
 have hw : wrap64 ((l.length : Int) + (room l.length : Int)) = (F : Int) := by unfold wrap64; omega
 have h := laws_toTermS_l0 l F (by omega) (by omega) l.length k 0 (by omega) (by omega) hk
 simp only [laws_toTermS.j0]
 rw [if_neg (by decide), roomBehind_eq, Option.bind_some, hw, if_pos (by omega), Int.toNat_natCast, if_pos (by omega)]
 simpa using h
theorem laws_toTermSW_l1 (l : List S109) (F : Nat) (hF : F ≤ 3000000) (hlF : l.length ≤ F) (d : Nat) : ∀ (k i : Nat), l.length ≤ i → i ≤ F → F - i = d → d < k → laws_toTermSW.l1 k l (l.map cvTermS ++ (List.replicate (i - l.length) fillTermS ++ List.replicate (F - i) z107)) (i : Int) = some (l.map cvTermS ++ List.replicate (F - l.length) fillTermS) := by
 induction d with
 | zero =>
  intro k i h0 h1 hd hk
  obtain ⟨k, rfl⟩ : ∃ m, k = m + 1 := ⟨k - 1, by omega⟩
  have e : i = F := by omega
  subst e
  simp only [laws_toTermSW.l1]; rw [if_neg (by simp only [List.length_append, List.length_replicate, List.length_map]; omega), if_pos (by omega), if_pos (by simp only [List.length_append, List.length_replicate, List.length_map]; omega)]
  simp
 | succ d ih =>
  intro k i h0 h1 hd hk
  obtain ⟨k, rfl⟩ : ∃ m, k = m + 1 := ⟨k - 1, by omega⟩
  have hs := set_fill2TermS (l.map cvTermS) F i (by simpa using h0) (by omega)
  simp only [List.length_map] at hs
  simp only [laws_toTermSW.l1]; rw [if_pos (by simp only [List.length_append, List.length_replicate, List.length_map]; omega), show laws_fillerTerm.f = some ((-7000000000000000101), (-7000000000000000101), (-7000000000000000101), (-7000000000000000101)) from rfl, Option.bind_some, if_pos (by omega), show wrap64 ((i : Int) + 1) = ((i + 1 : Nat) : Int) by unfold wrap64; omega, Int.toNat_natCast]
  change laws_toTermSW.l1 k l ((l.map cvTermS ++ (List.replicate (i - l.length) fillTermS ++ List.replicate (F - i) z107)).set i fillTermS) _ = _
  rw [hs]
  exact ih k (i + 1) (by omega) (by omega) (by omega) (by omega)
theorem laws_toTermSW_l0 (l : List S109) (F : Nat) (hF : F ≤ 3000000) (hlF : l.length ≤ F) (d : Nat) : ∀ (k i : Nat), i ≤ l.length → l.length - i = d → d + F + 2 < k → laws_toTermSW.l0 k l ((l.map cvTermS).take i ++ List.replicate (F - i) z107) (i : Int) = some (l.map cvTermS ++ List.replicate (F - l.length) fillTermS) := by
 induction d with
 | zero =>
  intro k i h1 hd hk
  obtain ⟨k, rfl⟩ : ∃ m, k = m + 1 := ⟨k - 1, by omega⟩
  have e : i = l.length := by omega
  subst e
  simp only [laws_toTermSW.l0]; rw [if_neg (by omega)]
  have h := laws_toTermSW_l1 l F hF hlF (F - l.length) k l.length (Nat.le_refl _) hlF rfl (by omega)
  simp only [Nat.sub_self, List.replicate_zero, List.nil_append] at h
  rw [List.take_of_length_le (by simp)]
  exact h
 | succ d ih =>
  intro k i h1 hd hk
  obtain ⟨k, rfl⟩ : ∃ m, k = m + 1 := ⟨k - 1, by omega⟩
  have hi : i < l.length := by omega
  have hs := set_fillTermS (l.map cvTermS) F i (by simpa using hi) (by simpa using hlF)
  have hr : rd_T109 l (i : Int) = l[i] := by simp [rd_T109, hi]
  simp only [laws_toTermSW.l0]; rw [if_pos (by omega), if_pos (by omega), hr, show laws_toTerm.f l[i].f0 l[i].f1 l[i].f2 l[i].f3 = some (l[i].f0, l[i].f1, l[i].f2, l[i].f3) from rfl, Option.bind_some, if_pos (by simp only [List.length_append, List.length_take, List.length_replicate, List.length_map]; omega), show wrap64 ((i : Int) + 1) = ((i + 1 : Nat) : Int) by unfold wrap64; omega, Int.toNat_natCast]
  have hc : (⟨l[i].f0, l[i].f1, l[i].f2, l[i].f3⟩ : S107) = (l.map cvTermS)[i]'(by simpa using hi) := by simp [cvTermS]
  change laws_toTermSW.l0 k l (((l.map cvTermS).take i ++ List.replicate (F - i) z107).set i (⟨l[i].f0, l[i].f1, l[i].f2, l[i].f3⟩ : S107)) _ = _
  rw [hc, hs]
  exact ih k (i + 1) (by omega) (by omega) (by omega)
theorem laws_toTermSW_j0 (l : List S109) (hn : l.length ≤ 1000000) (F : Nat) (hF : l.length + room l.length = F) (k : Nat) (hk : l.length + F + 2 < k) : laws_toTermSW.j0 (k + 1) l false = some (l.map cvTermS ++ List.replicate (F - l.length) fillTermS) := by
 have hr := room_le l.length
 have hw : wrap64 ((l.length : Int) + (room l.length : Int)) = (F : Int) := by unfold wrap64; omega
 have h := laws_toTermSW_l0 l F (by omega) (by omega) l.length k 0 (by omega) (by omega) hk
 simp only [laws_toTermSW.j0]
 rw [if_neg (by decide), roomBehind_eq, Option.bind_some, hw, if_pos (by omega), Int.toNat_natCast, if_pos (by omega)]
 simpa using h
theorem toTermS_whole (l : List S109) (hn : l.length ≤ 1000000) : ∃ k, laws_toTermSW.f k l false = some (padTermS l) := by
 refine ⟨(l.length + (l.length + room l.length) + 3) + 1, ?_⟩
 unfold laws_toTermSW.f
 rw [if_neg (by decide), laws_toTermSW_j0 l hn _ rfl _ (by omega)]
 unfold padTermS
 rw [show l.length + room l.length - l.length = room l.length by omega]
theorem toTermS_bare (l : List S109) (hn : l.length ≤ 1000000) : ∃ k, laws_toTermS.f k l true = some (l.map cvTermS) := by
 refine ⟨(l.length + (l.length + room l.length) + 3) + 1, ?_⟩
 unfold laws_toTermS.f
 rw [if_pos rfl]
 by_cases h : l = []
 ·subst h
  rfl
 ·have e : ((l.length : Int) == 0) = false := by
   have : 0 < l.length := List.length_pos_iff.2 h
   simp only [beq_eq_false_iff_ne]; omega
  rw [e]
  exact laws_toTermS_j0 l hn _ rfl _ (by omega)
theorem eqTerm_self (a0 : Int) (a1 : Int) (a2 : Int) (a3 : Int) : laws_eqTerm.f a0 a1 a2 a3 a0 a1 a2 a3 = some true := by unfold laws_eqTerm.f; simp
theorem eqTermS_loop (l : List S107) (hn : l.length ≤ 1000000000) (d : Nat) : ∀ (k : Nat) (i : Nat), i ≤ l.length → l.length - i = d → d < k → laws_eqTermS.l0 k l l (i : Int) = some true := by
 induction d with
 | zero =>
  intro k i h0 hd hk
  obtain ⟨k, rfl⟩ : ∃ m, k = m + 1 := ⟨k - 1, by omega⟩
  simp only [laws_eqTermS.l0]; rw [if_neg (by omega)]
 | succ d ih =>
  intro k i h0 hd hk
  obtain ⟨k, rfl⟩ : ∃ m, k = m + 1 := ⟨k - 1, by omega⟩
  simp only [laws_eqTermS.l0]; rw [if_pos (by omega), if_pos (by omega), if_pos (by omega), eqTerm_self, Option.bind_some, if_pos rfl, show wrap64 ((i : Int) + 1) = ((i + 1 : Nat) : Int) by unfold wrap64; omega]
  exact ih k (i + 1) (by omega) (by omega) (by omega)
theorem eqTermS_self (l : List S107) (hn : l.length ≤ 1000000000) : laws_eqTermS.f (l.length + 1) l l = some true := by
 unfold laws_eqTermS.f
 rw [if_pos rfl]
 exact eqTermS_loop l hn l.length (l.length + 1) 0 (by omega) (by omega) (by omega)
def laws_intactTermS.T2 : Bool × List (List Nat × List Nat) := (true, [([], []), ([0], [0]), ([], []), ([2], [2]), ([1, 3], [1, 3]), ([4], [4]), ([5], [5]), ([5], [5]), ([6, 7, 5], [5, 6, 7]), ([5], [5]), ([5], [5]), ([9, 10, 5], [5, 9, 10]), ([8, 11, 5, 5], [5, 8, 11]), ([5, 12], [5, 12]), ([13, 12, 0, 1, 2, 3, 4, 5, 6, 7, 8, 9, 10, 11, 12, 13], [13])])
def laws_intactTermS.B2 : List Nat := [0, 1, 0, 4, 15, 31, 63, 63, 255, 63, 63, 1599, 4095, 8191, 16383]
theorem laws_intactTermS.tab2 : rtab .any (opsOf Try.f34 2) = laws_intactTermS.T2 := by kernel_rfl
theorem laws_intactTermS.bits2 : waitsOk laws_intactTermS.T2.2 laws_intactTermS.B2 = true := by kernel_rfl
set_option maxHeartbeats 8000000 in
set_option maxRecDepth 100000 in
theorem laws_intactTermS.pad (k : Nat) (A0 A1 : Option Addr) (c0 c1 n : Nat) (p : List S107) (w : World) (hr0 : Kd.C k107 w A0 p.length p) (hc0 : p.length ≤ c0) (hr1 : Kd.C k107 w A1 p.length p) (hc1 : p.length ≤ c1) (hp : p.length = n + room n) (hn : n ≤ 1000000) (he : laws_eqTermS.f k p p = some true) :
 Calls Try.prog 34 #[.slice A0 n c0, .slice A1 n c1] w fun e w' => e = .returned (.bool true) ∧ Below w.heap.size w w' := by
 have hmb := room_le n
 have HR132 := Aside0.mk hr0
 have HC132 := Aside0.mk hc0
 have HR136 := Aside0.mk hr1
 have HC136 := Aside0.mk hc1
 have HB := Aside0.mk (Below.refl w.heap.size w)
 have A3 := Aside0.mk (roomBehind_eq n)
 have A10 := Aside0.mk he
 obtain ⟨ji5, hji5⟩ : ∃ j_ : Int, (wrap64 ((n : Int) + (room n : Int))) = j_ := ⟨_, rfl⟩
 have hje : ji5 = (p.length : Int) := by rw [← hji5, hp]; unfold wrap64; omega
 have hji5w : (IntKind.i64.wrap ((n : Int) + (room n : Int))) = ji5 := (i64_w _).trans hji5
 have c4b0 : ((n : Int) == (n : Int)) = true := by simp
 have c4b1 : ((n : Int) != (n : Int)) = false := by simp
 have c4b2 : (n == n) = true := by simp
 have c6b0 : (0 ≤ ji5) = True := eq_true (by omega)
 have c6b1 : decide (0 ≤ ji5) = true := decide_eq_true (by omega)
 obtain ⟨i0_, hi0_, _, hsz0_, _⟩ := info_parts info107
 have hcut12 := cut_room (P := Try.prog) 53 107 .i64 Try.underlying53 hi0_ A0 n c0 ji5 (by omega) (by omega)
 have hcut13 := cut_room (P := Try.prog) 53 107 .i64 Try.underlying53 hi0_ A1 n c1 ji5 (by omega) (by omega)
 rw [show ji5.toNat = p.length by omega] at hcut12 hcut13
 clear hmb hje hr0 hc0 hr1 hc1 he hp hi0_ hsz0_ hn
 go_enter Try.func34, Try.ntmps34
 try go_wp2_with (first | ((with_reducible refine gate_callee (f := 55) rfl ?_); refine goesL_ (some 10) rfl rfl Try.func55 kf rfl #[.int .i64 (n : Int)] rfl sm ?_; (with_reducible refine (laws_roomBehind.calls (n : Int) (room n : Int) _ A3.out).mono ?_); rintro e w' ⟨rfl, ⟨nd, rfl⟩⟩; refine ⟨_, rfl, ?_⟩))
 refine start_ (n := 15) (S := fun w' => True) (ds := []) #[fF, fF, fF, fF, fF, fF, fF, fF, fF, fF, fF, fF, fF, fF, fF] kf rfl rfl trivial (fun hHeld => ?_); refine with_tabW laws_intactTermS.tab2 laws_intactTermS.bits2 (fun HT_ HW_ => ?_)
 generalize hq_ : World.drew _ = w11 at hHeld ⊢
 have nHR132_ : Aside0 (Kd.C k107 w11 A0 p.length p) := ⟨by rw [← hq_]; exact (by repeat (first | exact HR132.out | (with_reducible refine Kd.C_alloc ?_ _) | (with_reducible refine Kd.C_drewN ?_ _) | (with_reducible refine Kd.C_drew ?_)))⟩
 have nHR136_ : Aside0 (Kd.C k107 w11 A1 p.length p) := ⟨by rw [← hq_]; exact (by repeat (first | exact HR136.out | (with_reducible refine Kd.C_alloc ?_ _) | (with_reducible refine Kd.C_drewN ?_ _) | (with_reducible refine Kd.C_drew ?_)))⟩
 have nHB_ : Aside0 (Below w.heap.size w w11) := ⟨by rw [← hq_]; exact bz⟩
 clear hq_ HR132 HR136 HB
 have HR132 := nHR132_
 have HR136 := nHR136_
 have HB := nHB_
 clear nHR132_ nHR136_ nHB_
 refine pq (i := 0) (N := some 12) #[tT, fF, fF, fF, fF, fF, fF, fF, fF, fF, fF, fF, fF, fF, fF] rfl rfl HT_.out ?_
 refine pq (i := 1) (N := some 13) #[tT, tT, fF, fF, fF, fF, fF, fF, fF, fF, fF, fF, fF, fF, fF] rfl rfl HT_.out ?_
 refine pq (i := 2) (N := some 14) #[tT, tT, tT, fF, fF, fF, fF, fF, fF, fF, fF, fF, fF, fF, fF] rfl rfl HT_.out ?_
 refine pq (i := 3) (N := some 15) #[tT, tT, tT, tT, fF, fF, fF, fF, fF, fF, fF, fF, fF, fF, fF] rfl rfl HT_.out ?_
 refine pq (i := 4) (N := some 16) #[tT, tT, tT, tT, tT, fF, fF, fF, fF, fF, fF, fF, fF, fF, fF] rfl rfl HT_.out ?_
 refine pq (i := 5) (N := some 17) #[tT, tT, tT, tT, tT, tT, fF, fF, fF, fF, fF, fF, fF, fF, fF] rfl rfl HT_.out ?_
 refine pq (i := 6) (N := some 18) #[tT, tT, tT, tT, tT, tT, tT, fF, fF, fF, fF, fF, fF, fF, fF] rfl rfl HT_.out ?_
 refine pq (i := 7) (N := some 19) #[tT, tT, tT, tT, tT, tT, tT, tT, fF, fF, fF, fF, fF, fF, fF] rfl rfl HT_.out ?_
 refine pq (i := 8) (N := some 20) #[tT, tT, tT, tT, tT, tT, tT, tT, tT, fF, fF, fF, fF, fF, fF] rfl rfl HT_.out ?_
 refine pq (i := 9) (N := some 21) #[tT, tT, tT, tT, tT, tT, tT, tT, tT, tT, fF, fF, fF, fF, fF] rfl rfl HT_.out ?_
 refine pq (i := 10) (N := some 22) #[tT, tT, tT, tT, tT, tT, tT, tT, tT, tT, tT, fF, fF, fF, fF] rfl rfl HT_.out ?_
 refine pq (i := 11) (N := some 23) #[tT, tT, tT, tT, tT, tT, tT, tT, tT, tT, tT, tT, fF, fF, fF] rfl rfl HT_.out ?_
 refine one_ (i := 12) (N := some 24) #[tT, tT, tT, tT, tT, tT, tT, tT, tT, tT, tT, tT, tT, fF, fF] rfl rfl (one_of HT_.out kf) (by decide) (fun K hK => ?_)
 refine goes_ Try.func83 kf rfl #[.slice A0 p.length c0, .slice A1 p.length c1] (by rfl) rfl rfl sm ?_
 with_reducible refine (laws_eqTermS.calls k _ _ p _ _ p true _ ?side1 ?side2 ?side3 ?side4 A10.out).mono ?_
 (case side1 => repeat (first | exact HR132.out | exact (Kd.C_below HR132.out HB.out) | (with_reducible refine Kd.C_alloc ?_ _) | (with_reducible refine Kd.C_drewN ?_ _) | (with_reducible refine Kd.C_drew ?_)))
 (case side2 => exact HC132.out)
 (case side3 => repeat (first | exact HR136.out | exact (Kd.C_below HR136.out HB.out) | (with_reducible refine Kd.C_alloc ?_ _) | (with_reducible refine Kd.C_drewN ?_ _) | (with_reducible refine Kd.C_drew ?_)))
 (case side4 => exact HC136.out)
 rintro e w14 ⟨rfl, hb⟩
 refine ⟨_, rfl, ?_⟩
 have n0_ := Aside0.mk (below_step bz hb)
 clear HB
 have HB := n0_
 clear n0_
 (try clear hb)
 (try clear hb2)
 (try clear hk)
 (try clear hi)
 refine hK.out _ _ trivial (fun hHeld => ?_)
 clear hK K
 refine norm_ (a' := ?_) ?_ ?_
 rotate_left
 ·show Act.put _ (some 24) _ = _
  simp only [Act.put, List.setIfInBounds_toArray, List.set_cons_zero, List.set_cons_succ, i64_w, i32_w]
  rfl
 refine pq (i := 13) (N := some 25) #[tT, tT, tT, tT, tT, tT, tT, tT, tT, tT, tT, tT, tT, tT, fF] rfl rfl HT_.out ?_
 refine pq (i := 14) (N := some 4) #[tT, tT, tT, tT, tT, tT, tT, tT, tT, tT, tT, tT, tT, tT, tT] rfl rfl HT_.out ?_
 refine done_ (done_of HT_.out kf) ?_
 try go_wp2
 go_ret
 exact ⟨by first | rfl | (simp [errW_none, errW_some] <;> rfl) | (simp only [← hji5]; first | rfl | (simp [errW_none, errW_some] <;> rfl)) | (simp [*, errW_none, errW_some] <;> rfl), bz⟩
mutual
def laws_toDyadicSW.j0 : Nat → List (S82) → Bool → Option ((List (S44)))
 | 0, _, _ => none
 | k + 1, x0, x13 => if x13 = true then (none) else ((laws_roomBehind.f (x0.length : Int)).bind fun t298 => (if 0 ≤ (wrap64 ((x0.length : Int) + t298)) then (if (wrap64 ((x0.length : Int) + t298) : Int).toNat ≤ 17592186044416 then (laws_toDyadicSW.l0 k x0 (List.replicate (wrap64 ((x0.length : Int) + t298) : Int).toNat z44) 0) else (none)) else (none)))
def laws_toDyadicSW.l0 : Nat → List (S82) → List (S44) → Int → Option ((List (S44)))
 | 0, _, _, _ => none
 | k + 1, x0, x5, x6 => if x6 < (x0.length : Int) then (if 0 ≤ x6 then ((laws_toDyadic.f ((rd_T82 x0 x6).f0) ((rd_T82 x0 x6).f1)).bind fun bt303 => (if x6 < (x5.length : Int) then (laws_toDyadicSW.l0 k x0 (x5.set (x6 : Int).toNat (⟨bt303.1, bt303.2⟩ : S44)) (wrap64 (x6 + 1))) else (none))) else (none)) else (laws_toDyadicSW.l1 k x0 x5 (x0.length : Int))
def laws_toDyadicSW.l1 : Nat → List (S82) → List (S44) → Int → Option ((List (S44)))
 | 0, _, _, _ => none
 | k + 1, x0, x5, x7 => if x7 < (x5.length : Int) then ((laws_fillerDyadic.f).bind fun bt306 => (if 0 ≤ x7 then (laws_toDyadicSW.l1 k x0 (x5.set (x7 : Int).toNat (⟨bt306.1, bt306.2⟩ : S44)) (wrap64 (x7 + 1))) else (none))) else (if 0 ≤ (x0.length : Int) then (if (x0.length : Int) ≤ (x5.length : Int) then (some x5) else (none)) else (none))
end
def laws_toDyadicSW.f (k : Nat) (l0 : List (S82)) (a1 : Bool) : Option ((List (S44))) := if a1 = true then (laws_toDyadicSW.j0 k l0 ((l0.length : Int) == 0)) else (laws_toDyadicSW.j0 k l0 false)
set_option maxHeartbeats 8000000 in
set_option maxRecDepth 100000 in
theorem laws_toDyadicSW.calls (k : Nat) (A0 : Option Addr) (c0 : Nat) (l0 : List (S82)) (a1 : Bool) (r : List (S44)) (w : World) (hr0 : Kd.C k82 w A0 l0.length l0) (hc0 : l0.length ≤ c0) (h : laws_toDyadicSW.f k l0 a1 = some r) :
 Calls Try.prog 13 #[.slice A0 l0.length c0, .bool a1] w fun e w' => ∃ (Ac_ : Option Addr) (cc_ : Nat), e = .returned (.slice Ac_ l0.length cc_) ∧ Kd.R k44 44 w' w.heap.size (fun _ => True) (.slice Ac_ r.length cc_) r ∧ Below w.heap.size w w' := by
 have hu82 := Try.underlying82
 have hu44 := Try.underlying44
 have HR0 := Aside0.mk hr0
 have HC0 := Aside0.mk hc0
 clear hr0 hc0
 have HB := Aside0.mk (Below.refl w.heap.size w)
 have H : (if a1 = true then (laws_toDyadicSW.j0 k l0 ((l0.length : Int) == 0)) else (laws_toDyadicSW.j0 k l0 false)) = some r := h
 clear h
 have HC3 := Aside0.mk H
 clear H
 go_enter Try.func13, Try.ntmps13
 go_upto_region 1 with (fail)
 go_cut [13] (fun v13 wc => ∃ (kq : Nat) (x13_2 : Bool), v13 = .bool x13_2 ∧ Aside0 (laws_toDyadicSW.j0 kq l0 x13_2 = some r) ∧ Aside0 (kq ≤ k) ∧ Aside0 (Below w.heap.size w wc))
 case first =>
  have H := HC3.out
  clear HC3
  by_cases c4 : a1 = true
  ·subst c4
   rw [if_pos rfl] at H
   have H' := Aside0.mk H
   clear H
   go_wp2
   go_meet
   case rel => exact ⟨_, (((l0.length : Int) == 0)), sr, H', ⟨by first | omega | exact Nat.le_refl _⟩, ⟨bz⟩⟩
  ·replace c4 := Bool.eq_false_iff.mpr c4
   subst c4
   rw [if_neg (show ¬ (false = true) by decide)] at H
   have H' := Aside0.mk H
   clear H
   go_wp2
   go_meet
   case rel => exact ⟨_, (false), sr, H', ⟨by first | omega | exact Nat.le_refl _⟩, ⟨bz⟩⟩
 case rest =>
  clear HC3
  try clear c1; try clear p2; try clear c4
  obtain ⟨kq, x13_2, rfl, HA, HJ2, HB⟩ := hcut
  cases kq with
  | zero => exact absurd HA.out (by simp [laws_toDyadicSW.j0])
  | succ kj2 =>
   have H := HA.out
   clear HA
   simp only [laws_toDyadicSW.j0] at H
   by_cases c5 : x13_2 = true
   ·subst c5
    have H1 : none = some r := by rw [if_pos rfl] at H; exact H
    exact absurd H1 (by simp)
   ·replace c5 := Bool.eq_false_iff.mpr c5
    subst c5
    rw [if_neg (show ¬ (false = true) by decide)] at H
    obtain ⟨t298, A6, H⟩ := bi H
    obtain ⟨ji7, hji7⟩ : ∃ j_ : Int, (wrap64 ((l0.length : Int) + t298)) = j_ := ⟨_, rfl⟩
    first | rw [hji7] at H | simp only [hji7] at H
    (try rw [hji7] at A6)
    have hji7w : (IntKind.i64.wrap ((l0.length : Int) + t298)) = ji7 := (i64_w _).trans hji7
    by_cases c8 : 0 ≤ (ji7)
    ·rw [if_pos c8] at H
     have c8b0 := eq_true c8
     have c8b1 : decide (0 ≤ (ji7)) = true := decide_eq_true c8
     clear c8
     by_cases c9 : (ji7 : Int).toNat ≤ 17592186044416
     ·rw [if_pos c9] at H
      have c9b0 := eq_true c9
      have c9b1 : decide ((ji7 : Int).toNat ≤ 17592186044416) = true := decide_eq_true c9
      clear c9
      obtain ⟨y299, hy299⟩ : ∃ y_ : List (S44), y_ = (List.replicate (ji7 : Int).toNat z44) := ⟨_, rfl⟩
      replace H : (laws_toDyadicSW.l0 kj2 l0 y299 0) = some r := by first | (rw [hy299]; with_reducible exact H) | (have H2_ := (Option.bind_some _ _).symm.trans H; rw [hy299]; with_reducible exact H2_) | (have H2_ := (Option.bind_some _ _).symm.trans H; with_reducible exact H2_) | with_reducible exact H | (rw [hy299]; exact H) | exact H
      have Ny299 := Aside0.mk hy299
      clear hy299
      have H' := Aside0.mk H
      clear H
      go_wp2_with (first | ((with_reducible refine gate_callee (f := 55) rfl ?_); refine goesL_ (some 18) rfl rfl Try.func55 kf rfl #[.int .i64 (l0.length : Int)] rfl sm ?_; (with_reducible refine (laws_roomBehind.calls (l0.length : Int) t298 _ A6.out).mono ?_); rintro e w' ⟨rfl, ⟨nd, rfl⟩⟩; refine ⟨_, rfl, ?_⟩) | ((with_reducible refine gate_dst (N := 20) rfl ?_); (try (refine gate_guard (by rfl) ?_; dsimp only)); refine Kd.R_make k44 _ 44 rfl (N := 20) rfl 25 _ _ rfl ji7 rfl rfl Try.underlying25 (.agg #[(.int .i64 0), (.int .i64 0)]) 16 info44 rfl (by decide) (by omega) z44 (ok := fun _ => True) (okp := fun _ => True) (k44_mkM _ _ _ z44 ) (fun _ hk => hk) trivial (of_decide_eq_true am) (Nat.le_trans (Nat.mul_le_mul_right _ (of_decide_eq_true am : ji7.toNat ≤ 17592186044416)) (by omega)) (Below.refl _ _) (Nat.le_refl _) ?_; intro v300 w10 ho11 hb hg_ hnew_; clear hg_ hnew_; (first | rw [← Ny299.out] at ho11 | (simp only [Int.reduceToNat] at ho11; rw [← Ny299.out] at ho11)); have n0_ := Aside0.mk (Kd.R_lower ho11 (below_size bz)); have n1_ := Aside0.mk (below_step bz hb); clear HB; have HO301 := n0_; have HB := n1_; clear n0_ n1_; clear hb ho11))
      go_loopg [6] kj2 (fun kq v6 w' => ∃ (x5_2 : List (S44)) (x6_2 : Int), v6 = .int .i64 x6_2 ∧ Aside0 (laws_toDyadicSW.l0 kq l0 x5_2 x6_2 = some r) ∧ Aside0 (kq ≤ kj2) ∧ Aside0 (Kd.R k44 44 w' w.heap.size (fun _ => True) v300 x5_2) ∧ Aside0 (Below w.heap.size w w'))
      case atStart => exact ⟨(y299), (0), sr, H', ⟨Nat.le_refl _⟩, ⟨kr HO301⟩, ⟨bz⟩⟩
      case round =>
       clear H'
       try clear c1; try clear p2; try clear c4; try clear c5; try clear p6; try clear c8; try clear c8b0; try clear c8b1; try clear c9; try clear c9b0; try clear c9b1; try clear p2
       obtain ⟨x5_2, x6_2, rfl, HA, HK2, HO_5, HB⟩ := hrel
       cases gk with
       | zero => exact absurd HA.out (by simp [laws_toDyadicSW.l0])
       | succ k2 =>
        have H := HA.out
        clear HA
        simp only [laws_toDyadicSW.l0] at H
        by_cases c12 : x6_2 < (l0.length : Int)
        ·rw [if_pos c12] at H
         have c12b0 : decide (x6_2 < (l0.length : Int)) = true := decide_eq_true c12
         clear c12
         by_cases c13 : 0 ≤ x6_2
         ·rw [if_pos c13] at H
          have c13b0 : decide (0 ≤ x6_2) = true := decide_eq_true c13
          clear c13
          obtain ⟨⟨t303, t304⟩, A14, H⟩ := bi H
          try dsimp only at H
          by_cases c15 : x6_2 < (x5_2.length : Int)
          ·rw [if_pos c15] at H
           have c15b0 : decide (x6_2 < (x5_2.length : Int)) = true := decide_eq_true c15
           clear c15
           obtain ⟨y305, hy305⟩ : ∃ y_ : List (S44), y_ = (x5_2.set (x6_2 : Int).toNat (⟨t303, t304⟩ : S44)) := ⟨_, rfl⟩
           replace H : (laws_toDyadicSW.l0 k2 l0 y305 (wrap64 (x6_2 + 1))) = some r := by first | (rw [hy305]; with_reducible exact H) | (have H2_ := (Option.bind_some _ _).symm.trans H; rw [hy305]; with_reducible exact H2_) | (have H2_ := (Option.bind_some _ _).symm.trans H; with_reducible exact H2_) | with_reducible exact H | (rw [hy305]; exact H) | exact H
           have Ny305 := Aside0.mk hy305
           clear hy305
           have H' := Aside0.mk H
           clear H
           have p302 : 0 ≤ (x6_2 : Int) := of_decide_eq_true am
           have q302 : x6_2 < (l0.length : Int) := of_decide_eq_true am
           obtain ⟨ad302, e302, hx302_0, hx302_1⟩ := at_T82 HR0.out x6_2 p302 q302
           cases e302
           replace hx302_0 := (HB.out.cell (World.block_lt_of_cell? w _ hx302_0)).trans hx302_0
           replace hx302_1 := (HB.out.cell (World.block_lt_of_cell? w _ hx302_1)).trans hx302_1
           replace p302 := eq_true p302
           replace q302 := eq_true q302
           go_wp2_with (first | ((with_reducible refine gate_callee (f := 56) rfl ?_); refine goesL_ (some 33) rfl rfl Try.func56 kf rfl #[.agg #[.int .i64 ((rd_T82 l0 x6_2).f0), .int .i64 ((rd_T82 l0 x6_2).f1)]] rfl sm ?_; (with_reducible refine (laws_toDyadic.calls ((rd_T82 l0 x6_2).f0) ((rd_T82 l0 x6_2).f1) t303 t304 _ A14.out).mono ?_); rintro e w17 ⟨rfl, hb⟩; refine ⟨_, rfl, ?_⟩; have n0_ := Aside0.mk (Kd.R_below (kr HO_5) hb); have n1_ := Aside0.mk (below_step bz hb); clear HO_5; clear HB; have HO_5 := n0_; have HB := n1_; clear n0_ n1_; (try clear hb); (try clear hb2); (try clear hk); (try clear hi); have p16 : 0 ≤ (x6_2 : Int) := of_decide_eq_true am; have q16 : (x6_2 : Int) < ((x5_2.length : Int) : Int) := of_decide_eq_true am; obtain ⟨go16, co16, eo16, gb16, gl16, cl16, HG16⟩ := Kd.R_form HO_5.out (by omega); (first | cases eo16 | (injection eo16 with ea_ en_ ec_; (first | subst ea_ | (injection ea_ with ea_; subst ea_)); subst ec_; clear en_)); have GB16 := Aside0.mk gb16; have GG16 := Aside0.mk HG16; clear gb16 gl16 HG16; obtain ⟨ce16, hcl16, hM16, hcc16, hfr16⟩ := Kd.R_elem HO_5.out z44 (x6_2 : Int) p16 q16; obtain rfl := k44_openM hM16; have hx16_0 : w17.cell? ⟨go16, (x6_2 : Int).toNat * 2, none⟩ = some (.int .i64 ((rd_T44 x5_2 x6_2).f0)) := hcc16 0 _ rfl; have hx16_1 : w17.cell? ⟨go16, (x6_2 : Int).toNat * 2 + 1, none⟩ = some (.int .i64 ((rd_T44 x5_2 x6_2).f1)) := hcc16 1 _ rfl; have hf16_0 : w17.frozen? ⟨go16, (x6_2 : Int).toNat * 2, none⟩ = false := hfr16 0; have hf16_1 : w17.frozen? ⟨go16, (x6_2 : Int).toNat * 2 + 1, none⟩ = false := hfr16 1; clear hcl16 hcc16 hfr16; (try clear hM16); replace p16 := eq_true p16; replace q16 := eq_true q16; have HX18 := Aside0.mk (show Kd.R k44 44 w17 w.heap.size (fun _ => True) (.slice (some ⟨go16, 0, none⟩) x5_2.length co16) x5_2 from (kr HO_5)); obtain ⟨ce18, hcl18, hM18, hcc18, hfr18⟩ := Kd.R_elem HX18.out z44 (x6_2 : Int) (of_decide_eq_true am) (by have h_ : (x6_2 : Int) < ((x5_2.length : Int) : Int) := of_decide_eq_true am; first | exact h_ | (have e_ := (Kd.R_reads' HO_5.out).1; omega) | simpa using h_); obtain rfl := k44_openM hM18; have HP18 := Kd.R_seg HX18.out (x6_2 : Int) (of_decide_eq_true am) (by have h_ : (x6_2 : Int) < ((x5_2.length : Int) : Int) := of_decide_eq_true am; first | exact h_ | (have e_ := (Kd.R_reads' HO_5.out).1; omega) | simpa using h_) (seg := [.int .i64 t303, .int .i64 t304]) (j := 0) hcl18 hcc18 (show 2 ≤ 2 from by decide) (x' := (⟨t303, t304⟩ : S44)) (k44_mkM _ _ _ (⟨t303, t304⟩ : S44) ) (fun _ hk => hk); have hx18_0 := hcc18 0 _ rfl; (try simp only [show (k44).sz = 2 from rfl, Nat.mul_one, Nat.add_zero] at hx18_0); have hf18_0 := hfr18 0; (try simp only [show (k44).sz = 2 from rfl, Nat.mul_one, Nat.add_zero] at hf18_0); have hx18_1 := hcc18 1 _ rfl; (try simp only [show (k44).sz = 2 from rfl, Nat.mul_one, Nat.add_zero] at hx18_1); have hf18_1 := hfr18 1; (try simp only [show (k44).sz = 2 from rfl, Nat.mul_one, Nat.add_zero] at hf18_1); clear hcl18 hcc18 hfr18 hM18) | ((with_reducible refine gate_store (t := 44) (p := 34) rfl ?_); refine store_event (t := 44) (p := 34) (v := ?vo_w19) (w1 := ((w17.setCell ⟨go16, (x6_2 : Int).toNat * 2, none⟩ (.int .i64 t303)).setCell ⟨go16, (x6_2 : Int).toNat * 2 + 1, none⟩ (.int .i64 t304))) ?hg ?ho ?hn ?hr ?_; (case ho => rfl); (case hg => rfl); (case hn => rfl); (case hr => first | (go_simp; done) | (go_simp; rfl)); intro w19 hw; have hg : w17.grownBy w19 (some go16) := (by rw [hw]; exact HP18.2); have hp_ : Kd.R k44 44 w19 w.heap.size (fun _ => True) (.slice (some ⟨go16, 0, none⟩) x5_2.length co16) y305 := (by rw [hw, Ny305.out]; exact HP18.1); clear HP18; have n0_ := Aside0.mk (hp_); have n1_ := Aside0.mk ((by rw [hw]; exact below_set (below_set (HB.out) GB16.out) GB16.out : Below w.heap.size w w19)); clear HO_5; clear HB; have HO_5 := n0_; have HB := n1_; clear n0_ n1_; clear hg hw hp_))
           go_roundg k2
           case measure => have := HJ2.out; have := HK2.out; omega
           case rel => exact ⟨(y305), (wrap64 (x6_2 + 1)), sr, H', ⟨by have := HJ2.out; have := HK2.out; omega⟩, ⟨kr HO_5⟩, ⟨bz⟩⟩
          ·rw [if_neg c15] at H
           exact absurd H (by simp)
         ·rw [if_neg c13] at H
          exact absurd H (by simp)
        ·rw [if_neg c12] at H
         have c12b0 : decide (x6_2 < (l0.length : Int)) = false := decide_eq_false c12
         clear c12
         have H' := Aside0.mk H
         clear H
         go_wp2
         go_loopg [7] k2 (fun kq v7 w' => ∃ (x5_3 : List (S44)) (x7_3 : Int), v7 = .int .i64 x7_3 ∧ Aside0 (laws_toDyadicSW.l1 kq l0 x5_3 x7_3 = some r) ∧ Aside0 (kq ≤ k2) ∧ Aside0 (Kd.R k44 44 w' w.heap.size (fun _ => True) v300 x5_3) ∧ Aside0 (Below w.heap.size w w'))
         case atStart => exact ⟨(x5_2), ((l0.length : Int)), sr, H', ⟨Nat.le_refl _⟩, ⟨kr HO_5⟩, ⟨bz⟩⟩
         case round =>
          clear H'
          try clear c1; try clear p1; try clear q1; try clear hx1; try clear p2; try clear p3; try clear q3; try clear hx3; try clear c4; try clear c5; try clear p6; try clear c8; try clear c8b0; try clear c8b1; try clear c9; try clear c9b0; try clear c9b1; try clear c12; try clear c12b0; try clear c13; try clear c13b0; try clear c15; try clear c15b0; try clear c16; try clear p16; try clear q16; try clear hx16; try clear hf16; try clear c18; try clear hx18; try clear hf18; try clear hx16_0; try clear hx16_1; try clear hx18_0; try clear hx18_1; try clear hx302_0; try clear hx302_1; try clear p16; try clear p2; try clear p302; try clear p6; try clear q16; try clear q302
          obtain ⟨x5_3, x7_3, rfl, HA, HK3, HO_5, HB⟩ := hrel
          cases gk with
          | zero => exact absurd HA.out (by simp [laws_toDyadicSW.l1])
          | succ k3 =>
           have H := HA.out
           clear HA
           simp only [laws_toDyadicSW.l1] at H
           by_cases c20 : x7_3 < (x5_3.length : Int)
           ·rw [if_pos c20] at H
            have c20b0 : decide (x7_3 < (x5_3.length : Int)) = true := decide_eq_true c20
            clear c20
            obtain ⟨⟨t306, t307⟩, A21, H⟩ := bi H
            try dsimp only at H
            by_cases c22 : 0 ≤ x7_3
            ·rw [if_pos c22] at H
             have c22b0 : decide (0 ≤ x7_3) = true := decide_eq_true c22
             clear c22
             obtain ⟨y308, hy308⟩ : ∃ y_ : List (S44), y_ = (x5_3.set (x7_3 : Int).toNat (⟨t306, t307⟩ : S44)) := ⟨_, rfl⟩
             replace H : (laws_toDyadicSW.l1 k3 l0 y308 (wrap64 (x7_3 + 1))) = some r := by first | (rw [hy308]; with_reducible exact H) | (have H2_ := (Option.bind_some _ _).symm.trans H; rw [hy308]; with_reducible exact H2_) | (have H2_ := (Option.bind_some _ _).symm.trans H; with_reducible exact H2_) | with_reducible exact H | (rw [hy308]; exact H) | exact H
             have Ny308 := Aside0.mk hy308
             clear hy308
             have H' := Aside0.mk H
             clear H
             obtain ⟨Ao24, co24, eo24⟩ := Kd.R_slice HO_5.out
             subst eo24
             go_wp2_with (first | ((with_reducible refine gate_callee (f := 57) rfl ?_); refine goesL_ (some 45) rfl rfl Try.func57 kf rfl #[] rfl sm ?_; (with_reducible refine (laws_fillerDyadic.calls  t306 t307 _ A21.out).mono ?_); rintro e w25 ⟨rfl, hb⟩; refine ⟨_, rfl, ?_⟩; have n0_ := Aside0.mk (Kd.R_below (kr HO_5) hb); have n1_ := Aside0.mk (below_step bz hb); clear HO_5; clear HB; have HO_5 := n0_; have HB := n1_; clear n0_ n1_; (try clear hb); (try clear hb2); (try clear hk); (try clear hi); have p23 : 0 ≤ (x7_3 : Int) := of_decide_eq_true am; have q23 : (x7_3 : Int) < ((x5_3.length : Int) : Int) := of_decide_eq_true am; obtain ⟨go23, co23, eo23, gb23, gl23, cl23, HG23⟩ := Kd.R_form HO_5.out (by omega); (first | cases eo23 | (injection eo23 with ea_ en_ ec_; (first | subst ea_ | (injection ea_ with ea_; subst ea_)); subst ec_; clear en_)); have GB23 := Aside0.mk gb23; have GG23 := Aside0.mk HG23; clear gb23 gl23 HG23; obtain ⟨ce23, hcl23, hM23, hcc23, hfr23⟩ := Kd.R_elem HO_5.out z44 (x7_3 : Int) p23 q23; obtain rfl := k44_openM hM23; have hx23_0 : w25.cell? ⟨go23, (x7_3 : Int).toNat * 2, none⟩ = some (.int .i64 ((rd_T44 x5_3 x7_3).f0)) := hcc23 0 _ rfl; have hx23_1 : w25.cell? ⟨go23, (x7_3 : Int).toNat * 2 + 1, none⟩ = some (.int .i64 ((rd_T44 x5_3 x7_3).f1)) := hcc23 1 _ rfl; have hf23_0 : w25.frozen? ⟨go23, (x7_3 : Int).toNat * 2, none⟩ = false := hfr23 0; have hf23_1 : w25.frozen? ⟨go23, (x7_3 : Int).toNat * 2 + 1, none⟩ = false := hfr23 1; clear hcl23 hcc23 hfr23; (try clear hM23); replace p23 := eq_true p23; replace q23 := eq_true q23; have HX26 := Aside0.mk (show Kd.R k44 44 w25 w.heap.size (fun _ => True) (.slice (some ⟨go23, 0, none⟩) x5_3.length co24) x5_3 from (kr HO_5)); obtain ⟨ce26, hcl26, hM26, hcc26, hfr26⟩ := Kd.R_elem HX26.out z44 (x7_3 : Int) (of_decide_eq_true am) (by have h_ : (x7_3 : Int) < ((x5_3.length : Int) : Int) := of_decide_eq_true am; first | exact h_ | (have e_ := (Kd.R_reads' HO_5.out).1; omega) | simpa using h_); obtain rfl := k44_openM hM26; have HP26 := Kd.R_seg HX26.out (x7_3 : Int) (of_decide_eq_true am) (by have h_ : (x7_3 : Int) < ((x5_3.length : Int) : Int) := of_decide_eq_true am; first | exact h_ | (have e_ := (Kd.R_reads' HO_5.out).1; omega) | simpa using h_) (seg := [.int .i64 t306, .int .i64 t307]) (j := 0) hcl26 hcc26 (show 2 ≤ 2 from by decide) (x' := (⟨t306, t307⟩ : S44)) (k44_mkM _ _ _ (⟨t306, t307⟩ : S44) ) (fun _ hk => hk); have hx26_0 := hcc26 0 _ rfl; (try simp only [show (k44).sz = 2 from rfl, Nat.mul_one, Nat.add_zero] at hx26_0); have hf26_0 := hfr26 0; (try simp only [show (k44).sz = 2 from rfl, Nat.mul_one, Nat.add_zero] at hf26_0); have hx26_1 := hcc26 1 _ rfl; (try simp only [show (k44).sz = 2 from rfl, Nat.mul_one, Nat.add_zero] at hx26_1); have hf26_1 := hfr26 1; (try simp only [show (k44).sz = 2 from rfl, Nat.mul_one, Nat.add_zero] at hf26_1); clear hcl26 hcc26 hfr26 hM26) | ((with_reducible refine gate_store (t := 44) (p := 46) rfl ?_); refine store_event (t := 44) (p := 46) (v := ?vo_w27) (w1 := ((w25.setCell ⟨go23, (x7_3 : Int).toNat * 2, none⟩ (.int .i64 t306)).setCell ⟨go23, (x7_3 : Int).toNat * 2 + 1, none⟩ (.int .i64 t307))) ?hg ?ho ?hn ?hr ?_; (case ho => rfl); (case hg => rfl); (case hn => rfl); (case hr => first | (go_simp; done) | (go_simp; rfl)); intro w27 hw; have hg : w25.grownBy w27 (some go23) := (by rw [hw]; exact HP26.2); have hp_ : Kd.R k44 44 w27 w.heap.size (fun _ => True) (.slice (some ⟨go23, 0, none⟩) x5_3.length co24) y308 := (by rw [hw, Ny308.out]; exact HP26.1); clear HP26; have n0_ := Aside0.mk (hp_); have n1_ := Aside0.mk ((by rw [hw]; exact below_set (below_set (HB.out) GB23.out) GB23.out : Below w.heap.size w w27)); clear HO_5; clear HB; have HO_5 := n0_; have HB := n1_; clear n0_ n1_; clear hg hw hp_))
             go_roundg k3
             case measure => have := HJ2.out; have := HK2.out; have := HK3.out; omega
             case rel => exact ⟨(y308), (wrap64 (x7_3 + 1)), sr, H', ⟨by have := HJ2.out; have := HK2.out; have := HK3.out; omega⟩, ⟨kr HO_5⟩, ⟨bz⟩⟩
            ·rw [if_neg c22] at H
             exact absurd H (by simp)
           ·rw [if_neg c20] at H
            have c20b0 : decide (x7_3 < (x5_3.length : Int)) = false := decide_eq_false c20
            clear c20
            by_cases c28 : 0 ≤ (l0.length : Int)
            ·rw [if_pos c28] at H
             have c28b0 := eq_true c28
             have c28b1 : decide (0 ≤ (l0.length : Int)) = true := decide_eq_true c28
             clear c28
             by_cases c29 : (l0.length : Int) ≤ (x5_3.length : Int)
             ·rw [if_pos c29] at H
              have c29b0 := eq_true c29
              have c29b1 : decide ((l0.length : Int) ≤ (x5_3.length : Int)) = true := decide_eq_true c29
              clear c29
              obtain ⟨y309, hy309⟩ : ∃ y_ : List (S44), y_ = (x5_3.take ((l0.length : Int) : Int).toNat) := ⟨_, rfl⟩
              have Ny309 := Aside0.mk hy309
              clear hy309
              have HR_ := Aside0.mk (Option.some.inj H)
              obtain ⟨Ao30, co30, eo30⟩ := Kd.R_slice HO_5.out
              subst eo30
              have q31 : ((l0.length : Int) : Int) ≤ ((x5_3.length : Int) : Int) := of_decide_eq_true am
              obtain ⟨i031, hi031, _, hsz31, _⟩ := info_parts info44
              have hcut31 := cut_to (P := Try.prog) 25 44 .i64 Try.underlying25 hi031 Ao30 x5_3.length co30 (l0.length : Int) (of_decide_eq_true am) q31 (Kd.R_reads' HO_5.out).2.1
              have hr31 := Kd.R_take (m := ((l0.length : Int) : Int).toNat) HO_5.out (by omega)
              have hy31 : y309.length = ((l0.length : Int) : Int).toNat := (by rw [Ny309.out, List.length_take]; omega)
              rw [← Ny309.out] at hr31
              rw [← hy31] at hr31 hcut31
              have HY_ : Aside0 (y309.length = l0.length) := ⟨by rw [hy31]; simp⟩
              clear hy31 hi031 hsz31
              have HO311 := Aside0.mk hr31
              clear hr31
              replace q31 := eq_true q31
              go_wp2
              go_ret
              exact ⟨Ao30, co30, by first | rfl | (rw [HY_.out]; done) | (simp [HY_.out]; done), by rw [← HR_.out]; (with_reducible repeat (first | apply Kd.R_alloc | apply Kd.R_drewN | apply Kd.R_drew)); first | exact HO_5.out | exact Kd.R_mono HO_5.out (fun _ _ => trivial), bz⟩
             ·rw [if_neg c29] at H
              exact absurd H (by simp)
            ·rw [if_neg c28] at H
             exact absurd H (by simp)
     ·rw [if_neg c9] at H
      exact absurd H (by simp)
    ·rw [if_neg c8] at H
     exact absurd H (by simp)
def cvDyadicS (x : S82) : S44 := ⟨x.f0, x.f1⟩
def fillDyadicS : S44 := ⟨-7000000000000000101, -7000000000000000101⟩
def padDyadicS (l : List S82) : List S44 := l.map cvDyadicS ++ List.replicate (room l.length) fillDyadicS
theorem padDyadicS_length (l : List S82) : (padDyadicS l).length = l.length + room l.length := by simp [padDyadicS]
theorem set_fillDyadicS (Q : List S44) (F i : Nat) (h : i < Q.length) (hF : Q.length ≤ F) : (Q.take i ++ List.replicate (F - i) z44).set i Q[i] = Q.take (i + 1) ++ List.replicate (F - (i + 1)) z44 := by
 have h1 : F - i = (F - (i + 1)) + 1 := by omega
 rw [h1, List.replicate_succ, List.set_append_right _ _ (by simp; omega)]
 have h2 : i - (Q.take i).length = 0 := by simp; omega
 rw [h2, List.set_cons_zero, List.take_succ_eq_append_getElem h, List.append_assoc]
 rfl
theorem set_fill2DyadicS (Q : List S44) (F i : Nat) (h : Q.length ≤ i) (hF : i < F) : (Q ++ (List.replicate (i - Q.length) fillDyadicS ++ List.replicate (F - i) z44)).set i fillDyadicS = Q ++ (List.replicate (i + 1 - Q.length) fillDyadicS ++ List.replicate (F - (i + 1)) z44) := by
 have h1 : F - i = (F - (i + 1)) + 1 := by omega
 rw [List.set_append_right _ _ h, List.set_append_right _ _ (by simp), h1, List.replicate_succ]
 have h2 : i - Q.length - (List.replicate (i - Q.length) fillDyadicS).length = 0 := by simp
 rw [h2, List.set_cons_zero]
 have h3 : i + 1 - Q.length = (i - Q.length) + 1 := by omega
 rw [h3, List.replicate_succ', List.append_assoc]
 rfl
theorem laws_toDyadicS_l1 (l : List S82) (F : Nat) (hF : F ≤ 3000000) (hlF : l.length ≤ F) (d : Nat) : ∀ (k i : Nat), l.length ≤ i → i ≤ F → F - i = d → d < k → laws_toDyadicS.l1 k l (l.map cvDyadicS ++ (List.replicate (i - l.length) fillDyadicS ++ List.replicate (F - i) z44)) (i : Int) = some (l.map cvDyadicS) := by
 induction d with
 | zero =>
  intro k i h0 h1 hd hk
  obtain ⟨k, rfl⟩ : ∃ m, k = m + 1 := ⟨k - 1, by omega⟩
  have e : i = F := by omega
  subst e
  simp only [laws_toDyadicS.l1]; rw [if_neg (by simp only [List.length_append, List.length_replicate, List.length_map]; omega), if_pos (by omega), if_pos (by simp only [List.length_append, List.length_replicate, List.length_map]; omega)]
  simp
 | succ d ih =>
  intro k i h0 h1 hd hk
  obtain ⟨k, rfl⟩ : ∃ m, k = m + 1 := ⟨k - 1, by omega⟩
  have hs := set_fill2DyadicS (l.map cvDyadicS) F i (by simpa using h0) (by omega)
  simp only [List.length_map] at hs
  simp only [laws_toDyadicS.l1]; rw [if_pos (by simp only [List.length_append, List.length_replicate, List.length_map]; omega), show laws_fillerDyadic.f = some ((-7000000000000000101), (-7000000000000000101)) from rfl, Option.bind_some, if_pos (by omega), show wrap64 ((i : Int) + 1) = ((i + 1 : Nat) : Int) by unfold wrap64; omega, Int.toNat_natCast]
  change laws_toDyadicS.l1 k l ((l.map cvDyadicS ++ (List.replicate (i - l.length) fillDyadicS ++ List.replicate (F - i) z44)).set i fillDyadicS) _ = _
  rw [hs]
  exact ih k (i + 1) (by omega) (by omega) (by omega) (by omega)
theorem laws_toDyadicS_l0 (l : List S82) (F : Nat) (hF : F ≤ 3000000) (hlF : l.length ≤ F) (d : Nat) : ∀ (k i : Nat), i ≤ l.length → l.length - i = d → d + F + 2 < k → laws_toDyadicS.l0 k l ((l.map cvDyadicS).take i ++ List.replicate (F - i) z44) (i : Int) = some (l.map cvDyadicS) := by
 induction d with
 | zero =>
  intro k i h1 hd hk
  obtain ⟨k, rfl⟩ : ∃ m, k = m + 1 := ⟨k - 1, by omega⟩
  have e : i = l.length := by omega
  subst e
  simp only [laws_toDyadicS.l0]; rw [if_neg (by omega)]
  have h := laws_toDyadicS_l1 l F hF hlF (F - l.length) k l.length (Nat.le_refl _) hlF rfl (by omega)
  simp only [Nat.sub_self, List.replicate_zero, List.nil_append] at h
  rw [List.take_of_length_le (by simp)]
  exact h
 | succ d ih =>
  intro k i h1 hd hk
  obtain ⟨k, rfl⟩ : ∃ m, k = m + 1 := ⟨k - 1, by omega⟩
  have hi : i < l.length := by omega
  have hs := set_fillDyadicS (l.map cvDyadicS) F i (by simpa using hi) (by simpa using hlF)
  have hr : rd_T82 l (i : Int) = l[i] := by simp [rd_T82, hi]
  simp only [laws_toDyadicS.l0]; rw [if_pos (by omega), if_pos (by omega), hr, show laws_toDyadic.f l[i].f0 l[i].f1 = some (l[i].f0, l[i].f1) from rfl, Option.bind_some, if_pos (by simp only [List.length_append, List.length_take, List.length_replicate, List.length_map]; omega), show wrap64 ((i : Int) + 1) = ((i + 1 : Nat) : Int) by unfold wrap64; omega, Int.toNat_natCast]
  have hc : (⟨l[i].f0, l[i].f1⟩ : S44) = (l.map cvDyadicS)[i]'(by simpa using hi) := by simp [cvDyadicS]
  change laws_toDyadicS.l0 k l (((l.map cvDyadicS).take i ++ List.replicate (F - i) z44).set i (⟨l[i].f0, l[i].f1⟩ : S44)) _ = _
  rw [hc, hs]
  exact ih k (i + 1) (by omega) (by omega) (by omega)
theorem laws_toDyadicS_j0 (l : List S82) (hn : l.length ≤ 1000000) (F : Nat) (hF : l.length + room l.length = F) (k : Nat) (hk : l.length + F + 2 < k) : laws_toDyadicS.j0 (k + 1) l false = some (l.map cvDyadicS) := by
 have hr := room_le l.length
 have hw : wrap64 ((l.length : Int) + (room l.length : Int)) = (F : Int) := by unfold wrap64; omega
 have h := laws_toDyadicS_l0 l F (by omega) (by omega) l.length k 0 (by omega) (by omega) hk
 simp only [laws_toDyadicS.j0]
 rw [if_neg (by decide), roomBehind_eq, Option.bind_some, hw, if_pos (by omega), Int.toNat_natCast, if_pos (by omega)]
 simpa using h
theorem laws_toDyadicSW_l1 (l : List S82) (F : Nat) (hF : F ≤ 3000000) (hlF : l.length ≤ F) (d : Nat) : ∀ (k i : Nat), l.length ≤ i → i ≤ F → F - i = d → d < k → laws_toDyadicSW.l1 k l (l.map cvDyadicS ++ (List.replicate (i - l.length) fillDyadicS ++ List.replicate (F - i) z44)) (i : Int) = some (l.map cvDyadicS ++ List.replicate (F - l.length) fillDyadicS) := by
 induction d with
 | zero =>
  intro k i h0 h1 hd hk
  obtain ⟨k, rfl⟩ : ∃ m, k = m + 1 := ⟨k - 1, by omega⟩
  have e : i = F := by omega
  subst e
  simp only [laws_toDyadicSW.l1]; rw [if_neg (by simp only [List.length_append, List.length_replicate, List.length_map]; omega), if_pos (by omega), if_pos (by simp only [List.length_append, List.length_replicate, List.length_map]; omega)]
  simp
 | succ d ih =>
  intro k i h0 h1 hd hk
  obtain ⟨k, rfl⟩ : ∃ m, k = m + 1 := ⟨k - 1, by omega⟩
  have hs := set_fill2DyadicS (l.map cvDyadicS) F i (by simpa using h0) (by omega)
  simp only [List.length_map] at hs
  simp only [laws_toDyadicSW.l1]; rw [if_pos (by simp only [List.length_append, List.length_replicate, List.length_map]; omega), show laws_fillerDyadic.f = some ((-7000000000000000101), (-7000000000000000101)) from rfl, Option.bind_some, if_pos (by omega), show wrap64 ((i : Int) + 1) = ((i + 1 : Nat) : Int) by unfold wrap64; omega, Int.toNat_natCast]
  change laws_toDyadicSW.l1 k l ((l.map cvDyadicS ++ (List.replicate (i - l.length) fillDyadicS ++ List.replicate (F - i) z44)).set i fillDyadicS) _ = _
  rw [hs]
  exact ih k (i + 1) (by omega) (by omega) (by omega) (by omega)
theorem laws_toDyadicSW_l0 (l : List S82) (F : Nat) (hF : F ≤ 3000000) (hlF : l.length ≤ F) (d : Nat) : ∀ (k i : Nat), i ≤ l.length → l.length - i = d → d + F + 2 < k → laws_toDyadicSW.l0 k l ((l.map cvDyadicS).take i ++ List.replicate (F - i) z44) (i : Int) = some (l.map cvDyadicS ++ List.replicate (F - l.length) fillDyadicS) := by
 induction d with
 | zero =>
  intro k i h1 hd hk
  obtain ⟨k, rfl⟩ : ∃ m, k = m + 1 := ⟨k - 1, by omega⟩
  have e : i = l.length := by omega
  subst e
  simp only [laws_toDyadicSW.l0]; rw [if_neg (by omega)]
  have h := laws_toDyadicSW_l1 l F hF hlF (F - l.length) k l.length (Nat.le_refl _) hlF rfl (by omega)
  simp only [Nat.sub_self, List.replicate_zero, List.nil_append] at h
  rw [List.take_of_length_le (by simp)]
  exact h
 | succ d ih =>
  intro k i h1 hd hk
  obtain ⟨k, rfl⟩ : ∃ m, k = m + 1 := ⟨k - 1, by omega⟩
  have hi : i < l.length := by omega
  have hs := set_fillDyadicS (l.map cvDyadicS) F i (by simpa using hi) (by simpa using hlF)
  have hr : rd_T82 l (i : Int) = l[i] := by simp [rd_T82, hi]
  simp only [laws_toDyadicSW.l0]; rw [if_pos (by omega), if_pos (by omega), hr, show laws_toDyadic.f l[i].f0 l[i].f1 = some (l[i].f0, l[i].f1) from rfl, Option.bind_some, if_pos (by simp only [List.length_append, List.length_take, List.length_replicate, List.length_map]; omega), show wrap64 ((i : Int) + 1) = ((i + 1 : Nat) : Int) by unfold wrap64; omega, Int.toNat_natCast]
  have hc : (⟨l[i].f0, l[i].f1⟩ : S44) = (l.map cvDyadicS)[i]'(by simpa using hi) := by simp [cvDyadicS]
  change laws_toDyadicSW.l0 k l (((l.map cvDyadicS).take i ++ List.replicate (F - i) z44).set i (⟨l[i].f0, l[i].f1⟩ : S44)) _ = _
  rw [hc, hs]
  exact ih k (i + 1) (by omega) (by omega) (by omega)
theorem laws_toDyadicSW_j0 (l : List S82) (hn : l.length ≤ 1000000) (F : Nat) (hF : l.length + room l.length = F) (k : Nat) (hk : l.length + F + 2 < k) : laws_toDyadicSW.j0 (k + 1) l false = some (l.map cvDyadicS ++ List.replicate (F - l.length) fillDyadicS) := by
 have hr := room_le l.length
 have hw : wrap64 ((l.length : Int) + (room l.length : Int)) = (F : Int) := by unfold wrap64; omega
 have h := laws_toDyadicSW_l0 l F (by omega) (by omega) l.length k 0 (by omega) (by omega) hk
 simp only [laws_toDyadicSW.j0]
 rw [if_neg (by decide), roomBehind_eq, Option.bind_some, hw, if_pos (by omega), Int.toNat_natCast, if_pos (by omega)]
 simpa using h
theorem toDyadicS_whole (l : List S82) (hn : l.length ≤ 1000000) : ∃ k, laws_toDyadicSW.f k l false = some (padDyadicS l) := by
 refine ⟨(l.length + (l.length + room l.length) + 3) + 1, ?_⟩
 unfold laws_toDyadicSW.f
 rw [if_neg (by decide), laws_toDyadicSW_j0 l hn _ rfl _ (by omega)]
 unfold padDyadicS
 rw [show l.length + room l.length - l.length = room l.length by omega]
theorem toDyadicS_bare (l : List S82) (hn : l.length ≤ 1000000) : ∃ k, laws_toDyadicS.f k l true = some (l.map cvDyadicS) := by
 refine ⟨(l.length + (l.length + room l.length) + 3) + 1, ?_⟩
 unfold laws_toDyadicS.f
 rw [if_pos rfl]
 by_cases h : l = []
 ·subst h
  rfl
 ·have e : ((l.length : Int) == 0) = false := by
   have : 0 < l.length := List.length_pos_iff.2 h
   simp only [beq_eq_false_iff_ne]; omega
  rw [e]
  exact laws_toDyadicS_j0 l hn _ rfl _ (by omega)
theorem eqDyadic_self (a0 : Int) (a1 : Int) : laws_eqDyadic.f a0 a1 a0 a1 = some true := by unfold laws_eqDyadic.f; simp
theorem eqDyadicS_loop (l : List S44) (hn : l.length ≤ 1000000000) (d : Nat) : ∀ (k : Nat) (i : Nat), i ≤ l.length → l.length - i = d → d < k → laws_eqDyadicS.l0 k l l (i : Int) = some true := by
 induction d with
 | zero =>
  intro k i h0 hd hk
  obtain ⟨k, rfl⟩ : ∃ m, k = m + 1 := ⟨k - 1, by omega⟩
  simp only [laws_eqDyadicS.l0]; rw [if_neg (by omega)]
 | succ d ih =>
  intro k i h0 hd hk
  obtain ⟨k, rfl⟩ : ∃ m, k = m + 1 := ⟨k - 1, by omega⟩
  simp only [laws_eqDyadicS.l0]; rw [if_pos (by omega), if_pos (by omega), if_pos (by omega), eqDyadic_self, Option.bind_some, if_pos rfl, show wrap64 ((i : Int) + 1) = ((i + 1 : Nat) : Int) by unfold wrap64; omega]
  exact ih k (i + 1) (by omega) (by omega) (by omega)
theorem eqDyadicS_self (l : List S44) (hn : l.length ≤ 1000000000) : laws_eqDyadicS.f (l.length + 1) l l = some true := by
 unfold laws_eqDyadicS.f
 rw [if_pos rfl]
 exact eqDyadicS_loop l hn l.length (l.length + 1) 0 (by omega) (by omega) (by omega)
def laws_intactDyadicS.T2 : Bool × List (List Nat × List Nat) := (true, [([], []), ([0], [0]), ([], []), ([2], [2]), ([1, 3], [1, 3]), ([4], [4]), ([5], [5]), ([5], [5]), ([6, 7, 5], [5, 6, 7]), ([5], [5]), ([5], [5]), ([9, 10, 5], [5, 9, 10]), ([8, 11, 5, 5], [5, 8, 11]), ([5, 12], [5, 12]), ([13, 12, 0, 1, 2, 3, 4, 5, 6, 7, 8, 9, 10, 11, 12, 13], [13])])
def laws_intactDyadicS.B2 : List Nat := [0, 1, 0, 4, 15, 31, 63, 63, 255, 63, 63, 1599, 4095, 8191, 16383]
theorem laws_intactDyadicS.tab2 : rtab .any (opsOf Try.f15 2) = laws_intactDyadicS.T2 := by kernel_rfl
theorem laws_intactDyadicS.bits2 : waitsOk laws_intactDyadicS.T2.2 laws_intactDyadicS.B2 = true := by kernel_rfl
set_option maxHeartbeats 8000000 in
set_option maxRecDepth 100000 in
theorem laws_intactDyadicS.pad (k : Nat) (A0 A1 : Option Addr) (c0 c1 n : Nat) (p : List S44) (w : World) (hr0 : Kd.C k44 w A0 p.length p) (hc0 : p.length ≤ c0) (hr1 : Kd.C k44 w A1 p.length p) (hc1 : p.length ≤ c1) (hp : p.length = n + room n) (hn : n ≤ 1000000) (he : laws_eqDyadicS.f k p p = some true) :
 Calls Try.prog 15 #[.slice A0 n c0, .slice A1 n c1] w fun e w' => e = .returned (.bool true) ∧ Below w.heap.size w w' := by
 have hmb := room_le n
 have HR173 := Aside0.mk hr0
 have HC173 := Aside0.mk hc0
 have HR177 := Aside0.mk hr1
 have HC177 := Aside0.mk hc1
 have HB := Aside0.mk (Below.refl w.heap.size w)
 have A3 := Aside0.mk (roomBehind_eq n)
 have A10 := Aside0.mk he
 obtain ⟨ji5, hji5⟩ : ∃ j_ : Int, (wrap64 ((n : Int) + (room n : Int))) = j_ := ⟨_, rfl⟩
 have hje : ji5 = (p.length : Int) := by rw [← hji5, hp]; unfold wrap64; omega
 have hji5w : (IntKind.i64.wrap ((n : Int) + (room n : Int))) = ji5 := (i64_w _).trans hji5
 have c4b0 : ((n : Int) == (n : Int)) = true := by simp
 have c4b1 : ((n : Int) != (n : Int)) = false := by simp
 have c4b2 : (n == n) = true := by simp
 have c6b0 : (0 ≤ ji5) = True := eq_true (by omega)
 have c6b1 : decide (0 ≤ ji5) = true := decide_eq_true (by omega)
 obtain ⟨i0_, hi0_, _, hsz0_, _⟩ := info_parts info44
 have hcut12 := cut_room (P := Try.prog) 25 44 .i64 Try.underlying25 hi0_ A0 n c0 ji5 (by omega) (by omega)
 have hcut13 := cut_room (P := Try.prog) 25 44 .i64 Try.underlying25 hi0_ A1 n c1 ji5 (by omega) (by omega)
 rw [show ji5.toNat = p.length by omega] at hcut12 hcut13
 clear hmb hje hr0 hc0 hr1 hc1 he hp hi0_ hsz0_ hn
 go_enter Try.func15, Try.ntmps15
 try go_wp2_with (first | ((with_reducible refine gate_callee (f := 55) rfl ?_); refine goesL_ (some 10) rfl rfl Try.func55 kf rfl #[.int .i64 (n : Int)] rfl sm ?_; (with_reducible refine (laws_roomBehind.calls (n : Int) (room n : Int) _ A3.out).mono ?_); rintro e w' ⟨rfl, ⟨nd, rfl⟩⟩; refine ⟨_, rfl, ?_⟩))
 refine start_ (n := 15) (S := fun w' => True) (ds := []) #[fF, fF, fF, fF, fF, fF, fF, fF, fF, fF, fF, fF, fF, fF, fF] kf rfl rfl trivial (fun hHeld => ?_); refine with_tabW laws_intactDyadicS.tab2 laws_intactDyadicS.bits2 (fun HT_ HW_ => ?_)
 generalize hq_ : World.drew _ = w11 at hHeld ⊢
 have nHR173_ : Aside0 (Kd.C k44 w11 A0 p.length p) := ⟨by rw [← hq_]; exact (by repeat (first | exact HR173.out | (with_reducible refine Kd.C_alloc ?_ _) | (with_reducible refine Kd.C_drewN ?_ _) | (with_reducible refine Kd.C_drew ?_)))⟩
 have nHR177_ : Aside0 (Kd.C k44 w11 A1 p.length p) := ⟨by rw [← hq_]; exact (by repeat (first | exact HR177.out | (with_reducible refine Kd.C_alloc ?_ _) | (with_reducible refine Kd.C_drewN ?_ _) | (with_reducible refine Kd.C_drew ?_)))⟩
 have nHB_ : Aside0 (Below w.heap.size w w11) := ⟨by rw [← hq_]; exact bz⟩
 clear hq_ HR173 HR177 HB
 have HR173 := nHR173_
 have HR177 := nHR177_
 have HB := nHB_
 clear nHR173_ nHR177_ nHB_
 refine pq (i := 0) (N := some 12) #[tT, fF, fF, fF, fF, fF, fF, fF, fF, fF, fF, fF, fF, fF, fF] rfl rfl HT_.out ?_
 refine pq (i := 1) (N := some 13) #[tT, tT, fF, fF, fF, fF, fF, fF, fF, fF, fF, fF, fF, fF, fF] rfl rfl HT_.out ?_
 refine pq (i := 2) (N := some 14) #[tT, tT, tT, fF, fF, fF, fF, fF, fF, fF, fF, fF, fF, fF, fF] rfl rfl HT_.out ?_
 refine pq (i := 3) (N := some 15) #[tT, tT, tT, tT, fF, fF, fF, fF, fF, fF, fF, fF, fF, fF, fF] rfl rfl HT_.out ?_
 refine pq (i := 4) (N := some 16) #[tT, tT, tT, tT, tT, fF, fF, fF, fF, fF, fF, fF, fF, fF, fF] rfl rfl HT_.out ?_
 refine pq (i := 5) (N := some 17) #[tT, tT, tT, tT, tT, tT, fF, fF, fF, fF, fF, fF, fF, fF, fF] rfl rfl HT_.out ?_
 refine pq (i := 6) (N := some 18) #[tT, tT, tT, tT, tT, tT, tT, fF, fF, fF, fF, fF, fF, fF, fF] rfl rfl HT_.out ?_
 refine pq (i := 7) (N := some 19) #[tT, tT, tT, tT, tT, tT, tT, tT, fF, fF, fF, fF, fF, fF, fF] rfl rfl HT_.out ?_
 refine pq (i := 8) (N := some 20) #[tT, tT, tT, tT, tT, tT, tT, tT, tT, fF, fF, fF, fF, fF, fF] rfl rfl HT_.out ?_
 refine pq (i := 9) (N := some 21) #[tT, tT, tT, tT, tT, tT, tT, tT, tT, tT, fF, fF, fF, fF, fF] rfl rfl HT_.out ?_
 refine pq (i := 10) (N := some 22) #[tT, tT, tT, tT, tT, tT, tT, tT, tT, tT, tT, fF, fF, fF, fF] rfl rfl HT_.out ?_
 refine pq (i := 11) (N := some 23) #[tT, tT, tT, tT, tT, tT, tT, tT, tT, tT, tT, tT, fF, fF, fF] rfl rfl HT_.out ?_
 refine one_ (i := 12) (N := some 24) #[tT, tT, tT, tT, tT, tT, tT, tT, tT, tT, tT, tT, tT, fF, fF] rfl rfl (one_of HT_.out kf) (by decide) (fun K hK => ?_)
 refine goes_ Try.func59 kf rfl #[.slice A0 p.length c0, .slice A1 p.length c1] (by rfl) rfl rfl sm ?_
 with_reducible refine (laws_eqDyadicS.calls k _ _ p _ _ p true _ ?side1 ?side2 ?side3 ?side4 A10.out).mono ?_
 (case side1 => repeat (first | exact HR173.out | exact (Kd.C_below HR173.out HB.out) | (with_reducible refine Kd.C_alloc ?_ _) | (with_reducible refine Kd.C_drewN ?_ _) | (with_reducible refine Kd.C_drew ?_)))
 (case side2 => exact HC173.out)
 (case side3 => repeat (first | exact HR177.out | exact (Kd.C_below HR177.out HB.out) | (with_reducible refine Kd.C_alloc ?_ _) | (with_reducible refine Kd.C_drewN ?_ _) | (with_reducible refine Kd.C_drew ?_)))
 (case side4 => exact HC177.out)
 rintro e w14 ⟨rfl, hb⟩
 refine ⟨_, rfl, ?_⟩
 have n0_ := Aside0.mk (below_step bz hb)
 clear HB
 have HB := n0_
 clear n0_
 (try clear hb)
 (try clear hb2)
 (try clear hk)
 (try clear hi)
 refine hK.out _ _ trivial (fun hHeld => ?_)
 clear hK K
 refine norm_ (a' := ?_) ?_ ?_
 rotate_left
 ·show Act.put _ (some 24) _ = _
  simp only [Act.put, List.setIfInBounds_toArray, List.set_cons_zero, List.set_cons_succ, i64_w, i32_w]
  rfl
 refine pq (i := 13) (N := some 25) #[tT, tT, tT, tT, tT, tT, tT, tT, tT, tT, tT, tT, tT, tT, fF] rfl rfl HT_.out ?_
 refine pq (i := 14) (N := some 4) #[tT, tT, tT, tT, tT, tT, tT, tT, tT, tT, tT, tT, tT, tT, tT] rfl rfl HT_.out ?_
 refine done_ (done_of HT_.out kf) ?_
 try go_wp2
 go_ret
 exact ⟨by first | rfl | (simp [errW_none, errW_some] <;> rfl) | (simp only [← hji5]; first | rfl | (simp [errW_none, errW_some] <;> rfl)) | (simp [*, errW_none, errW_some] <;> rfl), bz⟩
theorem toDyadicS_pad (kw : Nat) (A0 : Option Addr) (c0 : Nat) (l : List S82) (q P : List S44) (w : World) (hr : Kd.C k82 w A0 l.length l) (hc : l.length ≤ c0) (hw : laws_toDyadicSW.f kw l false = some P) (hq : q.length = l.length) :
 Calls Try.prog 13 #[.slice A0 l.length c0, .bool false] w fun e w' => ∃ (A : Option Addr) (c : Nat), e = .returned (.slice A q.length c) ∧ Kd.R k44 44 w' w.heap.size (fun _ => True) (.slice A P.length c) P ∧ Below w.heap.size w w' := by
 refine (laws_toDyadicSW.calls kw A0 c0 l false P w hr hc hw).mono ?_
 rintro e w' ⟨A, c, he, h1, h2⟩
 exact ⟨A, c, by rw [hq]; exact he, h1, h2⟩
def RP {α : Type} (e : Nat) (d : Kd α) (w : World) (base : Nat) (ok : Nat → Prop) (v : Value) (x : Nat × List α) : Prop := ∃ A c, v = .slice A x.1 c ∧ x.1 ≤ x.2.length ∧ Kd.R d e w base ok (.slice A x.2.length c) x.2
section
variable {α : Type} {d : Kd α} {e e' : Nat} {w w1 : World} {base base' : Nat} {ok ok' : Nat → Prop} {v u : Value} {x : Nat × List α} {xs : List α}
theorem own_len (A : Option Addr) (n m c : Nat) : (Value.slice A n c).ownBlock = (Value.slice A m c).ownBlock := by cases A <;> rfl
theorem RP_of (h : Kd.R d e w base ok v xs) : RP e d w base ok v (xs.length, xs) := by
 obtain ⟨A, c, rfl⟩ := Kd.R_slice h
 exact ⟨A, c, rfl, Nat.le_refl _, h⟩
theorem RP_nil (d : Kd α) (e : Nat) (w : World) (base : Nat) (ok : Nat → Prop) : RP e d w base ok (.slice none 0 0) (0, []) := ⟨none, 0, rfl, Nat.le_refl _, Kd.R_nil _ _ _ _ _⟩
theorem RP_mono (h : RP e d w base ok v x) (hok : ∀ k, ok k → ok' k) : RP e d w base ok' v x := by
 obtain ⟨A, c, rfl, hl, h⟩ := h
 exact ⟨A, c, rfl, hl, Kd.R_mono h hok⟩
theorem RP_bound (h : RP e d w base ok v x) : RP e d w base (fun k => ok k ∧ base ≤ k ∧ k < w.heap.size ∧ ∃ q, q ∈ e :: d.E ∧ ∃ cells, w.heap[k]? = some (.cells cells q (0, 0))) v x := by
 obtain ⟨A, c, rfl, hl, h⟩ := h
 exact ⟨A, c, rfl, hl, Kd.R_bound h⟩
theorem RP_move (h : RP e d w base ok v x) (hm : ∀ k, ok k → w1.heap[k]? = w.heap[k]?) : RP e d w1 base ok v x := by
 obtain ⟨A, c, rfl, hl, h⟩ := h
 exact ⟨A, c, rfl, hl, Kd.R_move h hm⟩
theorem RP_lower (h : RP e d w base ok v x) (hb : base' ≤ base) : RP e d w base' ok v x := by
 obtain ⟨A, c, rfl, hl, h⟩ := h
 exact ⟨A, c, rfl, hl, Kd.R_lower h hb⟩
theorem RP_base (h : RP e d w base ok v x) : ∀ k, v.ownBlock = some k → base ≤ k := by
 obtain ⟨A, c, rfl, hl, h⟩ := h
 exact fun k hk => Kd.R_base h k ((own_len A _ _ c).trans hk)
theorem RP_own (h : RP e d w base ok v x) : ∀ k, v.ownBlock = some k → ok k := by
 obtain ⟨A, c, rfl, hl, h⟩ := h
 exact fun k hk => h.1 k ((own_len A _ _ c).trans hk)
theorem RP_tight (hE : d.E = []) (h : RP e d w base ok v x) : RP e d w base (fun k => some k = v.ownBlock) v x := by
 obtain ⟨A, c, rfl, hl, h⟩ := h
 exact ⟨A, c, rfl, hl, Kd.R_mono (Kd.R_tight hE h) (fun k hk => hk.trans (own_len A _ _ c))⟩
theorem RP_apart' (h : RP e d w base ok u x) (hty : ∀ k, v.ownBlock = some k → ∃ cells, w.heap[k]? = some (.cells cells e' (0, 0))) (ht : ∀ q, q ∈ e :: d.E → q ≠ e') : RP e d w base (fun k => ok k ∧ some k ≠ v.ownBlock) u x := by
 obtain ⟨A, c, rfl, hl, h⟩ := h
 exact ⟨A, c, rfl, hl, Kd.R_apart' h hty ht⟩
theorem RP_slice (h : RP e d w base ok v x) : ∃ A c, v = .slice A x.1 c := by
 obtain ⟨A, c, rfl, _, _⟩ := h
 exact ⟨A, c, rfl⟩
theorem RP_told (h : RP e d w base ok v x) : Kd.R d e w base ok v (x.2.take x.1) := by
 obtain ⟨A, c, rfl, hl, h⟩ := h
 exact Kd.R_take h hl
end
def kPad {α : Type} (e : Nat) (d : Kd α) : Kd (Nat × List α) where
 sz := 1
 E := e :: d.E
 K := fun w x cs => ∃ A c, cs = [.slice A x.1 c] ∧ x.1 ≤ x.2.length ∧ x.2.length ≤ c ∧ Kd.C d w A x.2.length x.2
 M := fun w base ok x cs => ∃ v, cs = [v] ∧ RP e d w base ok v x
 K_len := by
  rintro w x cs ⟨A, c, rfl, _⟩
  rfl
 K_one := by
  rintro w x cs ⟨A, c, rfl, _⟩ u hu
  rw [List.mem_singleton.1 hu]
  rfl
 K_below := by
  rintro w w1 x cs hb ⟨A, c, rfl, hn, hl, hr⟩
  exact ⟨A, c, rfl, hn, hl, Kd.C_below hr hb⟩
 K_of_M := by
  rintro w base ok x cs ⟨v, rfl, A, c, rfl, hn, h⟩
  have h2 := Kd.R_reads' h
  exact ⟨A, c, rfl, hn, h2.2.1, h2.2.2⟩
 M_mono := by
  rintro w base ok ok' x cs hok ⟨v, rfl, h⟩
  exact ⟨v, rfl, RP_mono h hok⟩
 M_bound := by
  rintro w base ok x cs ⟨v, rfl, h⟩
  exact ⟨v, rfl, RP_bound h⟩
 M_move := by
  rintro w w1 base ok x cs hm ⟨v, rfl, h⟩
  exact ⟨v, rfl, RP_move h hm⟩
 M_lower := by
  rintro w base base' ok x cs hb ⟨v, rfl, h⟩
  exact ⟨v, rfl, RP_lower h hb⟩
theorem RP_row {α : Type} {d : Kd α} {e base : Nat} {ok : Nat → Prop} {w : World} {v : Value} {x : Nat × List α} (h : RP e d w base ok v x) : (kPad e d).M w base ok x [v] := ⟨v, rfl, h⟩
def told {α : Type} (x : Nat × List α) : List α := x.2.take x.1
section
variable {α β : Type} {d : Kd α} {d' : Kd β} {e T : Nat} {w : World} {base : Nat} {ok : Nat → Prop} {v : Value} {xs : List α}
theorem R_map (g : α → β) (hs : d'.sz = d.sz) (hM : ∀ {w : World} {base : Nat} {ok : Nat → Prop} {x : α} {cs : List Value}, d.M w base ok x cs → d'.M w base ok (g x) cs) (h : d.R e w base ok v xs) : d'.R e w base ok v (xs.map g) := by
 obtain ⟨h0, inner, ho, hl, hr⟩ := h
 refine ⟨h0, inner, by rw [List.length_map, hs]; exact ho, by rw [List.length_map, hs]; exact hl, fun j p hj => ?_⟩
 rw [List.getElem?_map] at hj
 obtain ⟨q, hq, rfl⟩ := Option.map_eq_some_iff.1 hj
 rw [hs]
 exact hM (hr j q hq)
theorem S_map (g : α → β) (hs : d'.sz = d.sz) (hM : ∀ {w : World} {base : Nat} {ok : Nat → Prop} {x : α} {cs : List Value}, d.M w base ok x cs → d'.M w base ok (g x) cs) (h : Kd.S d e w base ok v xs) : Kd.S d' e w base ok v (xs.map g) := by
 obtain ⟨f, h⟩ := h
 refine ⟨f, ?_⟩
 rw [List.zipIdx_map]
 exact R_map (d := Kd.tag f d) (d' := Kd.tag f d') (Prod.map g id) hs (fun h => hM h) h
theorem C_map (g : α → β) (hs : d'.sz = d.sz) (hK : ∀ {w : World} {x : α} {cs : List Value}, d.K w x cs → d'.K w (g x) cs) {A : Option Addr} {n : Nat} (h : d.C w A n xs) : d'.C w A n (xs.map g) := by
 obtain ⟨h1, h2, h3⟩ := h
 refine ⟨by rw [List.length_map]; exact h1, h2, fun hp => ?_⟩
 obtain ⟨ad, he, hc⟩ := h3 hp
 refine ⟨ad, he, fun j p hj => ?_⟩
 rw [List.getElem?_map] at hj
 obtain ⟨q, hq, rfl⟩ := Option.map_eq_some_iff.1 hj
 obtain ⟨c, h4, h5, h6⟩ := hc j q hq
 exact ⟨c, by rw [hs]; exact h4, hK h5, by rw [hs]; exact h6⟩
end
section
variable {α : Type} {d : Kd α} {e T : Nat} {w : World} {base : Nat} {ok : Nat → Prop} {v : Value} {xs : List (Nat × List α)}
theorem kPad_M {w : World} {base : Nat} {ok : Nat → Prop} {x : Nat × List α} {cs : List Value} (h : (kPad e d).M w base ok x cs) : (Kd.slice e d).M w base ok (told x) cs := by
 obtain ⟨v, rfl, h⟩ := h
 exact ⟨v, rfl, RP_told h⟩
theorem told_length {x : Nat × List α} (h : x.1 ≤ x.2.length) : (told x).length = x.1 := by simp [told]; omega
theorem kPad_K {w : World} {x : Nat × List α} {cs : List Value} (h : (kPad e d).K w x cs) : (Kd.slice e d).K w (told x) cs := by
 obtain ⟨A, c, rfl, hn, hl, h⟩ := h
 refine ⟨A, c, by rw [told_length hn], by rw [told_length hn]; omega, ?_⟩
 have e_ : x.2 = told x ++ x.2.drop x.1 := (List.take_append_drop x.1 x.2).symm
 rw [e_] at h
 exact C_begin h
theorem kPad_S (h : Kd.S (kPad e d) T w base ok v xs) : Kd.S (Kd.slice e d) T w base ok v (xs.map told) := S_map told rfl kPad_M h
theorem kPad_C {A : Option Addr} {n : Nat} (h : (kPad e d).C w A n xs) : (Kd.slice e d).C w A n (xs.map told) := C_map told rfl kPad_K h
end
theorem set_fillG {α : Type} (Q : List α) (z : α) (F i : Nat) (h : i < Q.length) (hF : Q.length ≤ F) : (Q.take i ++ List.replicate (F - i) z).set i Q[i] = Q.take (i + 1) ++ List.replicate (F - (i + 1)) z := by
 have h1 : F - i = (F - (i + 1)) + 1 := by omega
 rw [h1, List.replicate_succ, List.set_append_right _ _ (by simp; omega)]
 have h2 : i - (Q.take i).length = 0 := by simp; omega
 rw [h2, List.set_cons_zero, List.take_succ_eq_append_getElem h, List.append_assoc]
 rfl
theorem set_fill2G {α : Type} (Q : List α) (z f : α) (F i : Nat) (h : Q.length ≤ i) (hF : i < F) : (Q ++ (List.replicate (i - Q.length) f ++ List.replicate (F - i) z)).set i f = Q ++ (List.replicate (i + 1 - Q.length) f ++ List.replicate (F - (i + 1)) z) := by
 have h1 : F - i = (F - (i + 1)) + 1 := by omega
 rw [List.set_append_right _ _ h, List.set_append_right _ _ (by simp), h1, List.replicate_succ]
 have h2 : i - Q.length - (List.replicate (i - Q.length) f).length = 0 := by simp
 rw [h2, List.set_cons_zero]
 have h3 : i + 1 - Q.length = (i - Q.length) + 1 := by omega
 rw [h3, List.replicate_succ', List.append_assoc]
 rfl
def total {α : Type} (l : List (List α)) : Nat := (l.map List.length).sum
theorem total_le {α : Type} (l : List (List α)) (q : List α) (h : q ∈ l) : q.length ≤ total l := by
 induction l with
 | nil => exact absurd h (by simp)
 | cons a t ih =>
  unfold total
  rw [List.map_cons, List.sum_cons]
  rcases List.mem_cons.1 h with rfl | h
  ·exact Nat.le_add_right _ _
  ·exact Nat.le_trans (ih h) (Nat.le_add_left _ _)
theorem total_drop {α : Type} (l : List (List α)) (i : Nat) (h : i < l.length) : total (l.drop i) = l[i].length + total (l.drop (i + 1)) := by
 rw [List.drop_eq_getElem_cons h]
 unfold total
 rw [List.map_cons, List.sum_cons]
theorem C_lens {α : Type} {d : Kd α} {e : Nat} {w : World} {A : Option Addr} {xs : List (List α)} (h : Kd.C (Kd.slice e d) w A xs.length xs) : ∀ q ∈ xs, q.length ≤ 9223372036854775807 := by
 intro q hq
 obtain ⟨j, hj, rfl⟩ := List.mem_iff_getElem.1 hq
 obtain ⟨_, _, h3⟩ := h
 obtain ⟨ad, _, hc⟩ := h3 (by omega)
 obtain ⟨c, _, hK, _⟩ := hc j _ (List.getElem?_eq_getElem hj)
 obtain ⟨_, _, _, _, hC⟩ := hK
 exact hC.2.1
theorem lens_bound {α : Type} (l : List (List α)) : ∃ K, ∀ q ∈ l, q.length < K := ⟨total l + 1, fun q h => Nat.lt_succ_of_le (total_le l q h)⟩
theorem total_append {α : Type} (s t : List (List α)) : total (s ++ t) = total s + total t := by unfold total; rw [List.map_append, List.sum_append]
theorem total_one {α : Type} (q : List α) : total [q] = q.length := by simp [total]
theorem total_take {α : Type} (l : List (List α)) (i : Nat) (h : i < l.length) : total (l.take (i + 1)) = total (l.take i) + l[i].length := by
 rw [List.take_succ_eq_append_getElem h, total_append, total_one]
theorem total_take_le {α : Type} (l : List (List α)) (i : Nat) : total (l.take i) ≤ total l := by
 have h := total_append (l.take i) (l.drop i)
 rw [List.take_append_drop] at h
 omega
theorem total_map {α β : Type} (f : α → β) (l : List (List α)) : total (l.map (List.map f)) = total l := by
 induction l with
 | nil => rfl
 | cons q t ih =>
  unfold total at ih ⊢
  rw [List.map_cons, List.map_cons, List.map_cons, List.sum_cons, List.sum_cons, List.length_map, ih]
theorem madeS {α : Type} {d : Kd α} {e : Nat} {v : Value} {xs : List α} {w W W' : World} {bp : Nat} (hp : bp ≤ W.heap.size) (hB : Below w.heap.size w W) (hb : Below W.heap.size W W') (ho : Kd.S d e W' W.heap.size (fun _ => True) v xs) :
 ∃ a b, (bp ≤ a ∧ a ≤ b) ∧ b ≤ W'.heap.size ∧ Kd.S d e W' w.heap.size (fun k => a ≤ k ∧ k < b) v xs ∧ Below w.heap.size w W' :=
 ⟨W.heap.size, W'.heap.size, ⟨hp, hb.size⟩, Nat.le_refl _, Kd.S_lower (Kd.S_mono (Kd.S_bound ho) (fun k hk => ⟨hk.2.1, hk.2.2.1⟩)) hB.size, below_step hB hb⟩
section
variable {α : Type} {d : Kd α} {e T : Nat} {w : World} {b : Nat} {ok : Nat → Prop} {A : Option Addr} {c : Nat} {q : List (List α)} {P : List (Nat × List α)}
theorem padr2 (hp : ∃ f, P.map told = q ++ f) (h : Kd.S (kPad e d) T w b ok (.slice A P.length c) P) : Kd.C (Kd.slice e d) w A q.length q := by
 obtain ⟨f, hf⟩ := hp
 have h2 := kPad_C (Kd.S_reads' h).2.2
 rw [hf] at h2
 exact C_begin h2
theorem padl2 (hp : ∃ f, P.map told = q ++ f) (h : P.length ≤ c) : q.length ≤ c := by
 obtain ⟨f, hf⟩ := hp
 have h2 := congrArg List.length hf
 simp at h2
 omega
theorem padseen2 (hp : ∃ f, P.map told = q ++ f) (h : Kd.S (kPad e d) T w b ok (.slice A P.length c) P) : Kd.S (Kd.slice e d) T w b ok (.slice A q.length c) q := by
 obtain ⟨f, hf⟩ := hp
 have h1 := kPad_S h
 rw [hf] at h1
 have h2 := Kd.S_take h1 (show q.length ≤ (q ++ f).length by simp)
 have e_ : (q ++ f).take q.length = q := by simp
 rwa [e_] at h2
end
def laws_toTermSP.f (k : Nat) (l : List S109) (b : Bool) : Option (Nat × List S107) := if b = false ∧ l.length ≤ 1000000 then some (l.length, padTermS l) else none
theorem laws_toTermSP.calls (k : Nat) (A0 : Option Addr) (c0 : Nat) (l0 : List S109) (a1 : Bool) (r : Nat × List S107) (w : World) (hr0 : Kd.C k109 w A0 l0.length l0) (hc0 : l0.length ≤ c0) (h : laws_toTermSP.f k l0 a1 = some r) :
 Calls Try.prog 32 #[.slice A0 l0.length c0, .bool a1] w fun e w' => ∃ v0_ : Value, e = .returned (v0_) ∧ RP 107 k107 w' w.heap.size (fun _ => True) v0_ r ∧ Below w.heap.size w w' := by
 unfold laws_toTermSP.f at h
 by_cases hb : a1 = false ∧ l0.length ≤ 1000000
 ·rw [if_pos hb] at h
  obtain ⟨rfl, hn⟩ := hb
  obtain rfl := Option.some.inj h
  obtain ⟨kw, hw⟩ := toTermS_whole l0 hn
  refine (laws_toTermSW.calls kw A0 c0 l0 false _ w hr0 hc0 hw).mono ?_
  rintro e w' ⟨A, c, rfl, h1, h2⟩
  exact ⟨_, rfl, ⟨_, _, rfl, by show l0.length ≤ (padTermS l0).length; rw [padTermS_length]; omega, h1⟩, h2⟩
 ·rw [if_neg hb] at h
  exact absurd h (by simp)
mutual
def laws_toTermSSW.j0 : Nat → List (List (S109)) → Bool → Bool → Option ((List (Nat × List (S107))))
 | 0, _, _, _ => none
 | k + 1, x0, x1, x13 => if x13 = true then (none) else ((laws_roomBehind.f (x0.length : Int)).bind fun t264 => (if 0 ≤ (wrap64 ((x0.length : Int) + t264)) then (if (wrap64 ((x0.length : Int) + t264) : Int).toNat ≤ 11728124029610 then (laws_toTermSSW.l0 k x0 x1 (List.replicate (wrap64 ((x0.length : Int) + t264) : Int).toNat ((0, []) : (Nat × List (S107)))) 0) else (none)) else (none)))
def laws_toTermSSW.l0 : Nat → List (List (S109)) → Bool → List (Nat × List (S107)) → Int → Option ((List (Nat × List (S107))))
 | 0, _, _, _, _ => none
 | k + 1, x0, x1, x5, x6 => if x6 < (x0.length : Int) then (if 0 ≤ x6 then ((laws_toTermSP.f k (rd_L5 x0 x6) x1).bind fun t269 => (if x6 < (x5.length : Int) then (laws_toTermSSW.l0 k x0 x1 (x5.set (x6 : Int).toNat t269) (wrap64 (x6 + 1))) else (none))) else (none)) else (laws_toTermSSW.l1 k x0 x5 (x0.length : Int))
def laws_toTermSSW.l1 : Nat → List (List (S109)) → List (Nat × List (S107)) → Int → Option ((List (Nat × List (S107))))
 | 0, _, _, _ => none
 | k + 1, x0, x5, x7 => if x7 < (x5.length : Int) then ((laws_fillerTerm.f).bind fun bt273 => (if 0 ≤ x7 then (laws_toTermSSW.l1 k x0 (x5.set (x7 : Int).toNat ((([(⟨bt273.1, bt273.2.1, bt273.2.2.1, bt273.2.2.2⟩ : S107)] : List (S107)).length, ([(⟨bt273.1, bt273.2.1, bt273.2.2.1, bt273.2.2.2⟩ : S107)] : List (S107))) : (Nat × List (S107)))) (wrap64 (x7 + 1))) else (none))) else (if 0 ≤ (x0.length : Int) then (if (x0.length : Int) ≤ (x5.length : Int) then (some x5) else (none)) else (none))
end
def laws_toTermSSW.f (k : Nat) (l0 : List (List (S109))) (a1 : Bool) : Option (List (Nat × List (S107))) := if a1 = true then (laws_toTermSSW.j0 k l0 a1 ((l0.length : Int) == 0)) else (laws_toTermSSW.j0 k l0 a1 false)
set_option maxHeartbeats 8000000 in
set_option maxRecDepth 100000 in
theorem laws_toTermSSW.calls (k : Nat) (A0 : Option Addr) (c0 : Nat) (l0 : List (List (S109))) (a1 : Bool) (r : List (Nat × List (S107))) (w : World) (hr0 : Kd.C (Kd.slice 109 k109) w A0 l0.length l0) (hc0 : l0.length ≤ c0) (h : laws_toTermSSW.f k l0 a1 = some r) :
 Calls Try.prog 46 #[.slice A0 l0.length c0, .bool a1] w fun e w' => ∃ (Ac_ : Option Addr) (cc_ : Nat), e = .returned (.slice Ac_ l0.length cc_) ∧ Kd.S (kPad 107 k107) 53 w' w.heap.size (fun _ => True) (.slice Ac_ r.length cc_) r ∧ Below w.heap.size w w' := by
 have HR0 := Aside0.mk hr0
 have HC0 := Aside0.mk hc0
 clear hr0 hc0
 have HB := Aside0.mk (Below.refl w.heap.size w)
 have H : (if a1 = true then (laws_toTermSSW.j0 k l0 a1 ((l0.length : Int) == 0)) else (laws_toTermSSW.j0 k l0 a1 false)) = some r := h
 clear h
 have HC3 := Aside0.mk H
 clear H
 go_enter Try.func46, Try.ntmps46
 go_upto_region 1 with (fail)
 go_cut [13] (fun v13 wc => ∃ (kq : Nat) (x13_2 : Bool), v13 = .bool x13_2 ∧ Aside0 (laws_toTermSSW.j0 kq l0 a1 x13_2 = some r) ∧ Aside0 (kq ≤ k) ∧ Aside0 (Below w.heap.size w wc))
 case first =>
  have H := HC3.out
  clear HC3
  by_cases c4 : a1 = true
  ·subst c4
   rw [if_pos rfl] at H
   have H' := Aside0.mk H
   clear H
   go_wp2
   go_meet
   case rel => exact ⟨_, (((l0.length : Int) == 0)), sr, H', ⟨by first | omega | exact Nat.le_refl _⟩, ⟨bz⟩⟩
  ·replace c4 := Bool.eq_false_iff.mpr c4
   subst c4
   rw [if_neg (show ¬ (false = true) by decide)] at H
   have H' := Aside0.mk H
   clear H
   go_wp2
   go_meet
   case rel => exact ⟨_, (false), sr, H', ⟨by first | omega | exact Nat.le_refl _⟩, ⟨bz⟩⟩
 case rest =>
  clear HC3
  try clear p2; try clear c4
  obtain ⟨kq, x13_2, rfl, HA, HJ2, HB⟩ := hcut
  cases kq with
  | zero => exact absurd HA.out (by simp [laws_toTermSSW.j0])
  | succ kj2 =>
   have H := HA.out
   clear HA
   simp only [laws_toTermSSW.j0] at H
   by_cases c5 : x13_2 = true
   ·subst c5
    have H1 : none = some r := by rw [if_pos rfl] at H; exact H
    exact absurd H1 (by simp)
   ·replace c5 := Bool.eq_false_iff.mpr c5
    subst c5
    rw [if_neg (show ¬ (false = true) by decide)] at H
    obtain ⟨t264, A6, H⟩ := bi H
    obtain ⟨ji7, hji7⟩ : ∃ j_ : Int, (wrap64 ((l0.length : Int) + t264)) = j_ := ⟨_, rfl⟩
    first | rw [hji7] at H | simp only [hji7] at H
    (try rw [hji7] at A6)
    have hji7w : (IntKind.i64.wrap ((l0.length : Int) + t264)) = ji7 := (i64_w _).trans hji7
    by_cases c8 : 0 ≤ (ji7)
    ·rw [if_pos c8] at H
     have c8b0 := eq_true c8
     have c8b1 : decide (0 ≤ (ji7)) = true := decide_eq_true c8
     clear c8
     by_cases c9 : (ji7 : Int).toNat ≤ 11728124029610
     ·rw [if_pos c9] at H
      have c9b0 := eq_true c9
      have c9b1 : decide ((ji7 : Int).toNat ≤ 11728124029610) = true := decide_eq_true c9
      clear c9
      obtain ⟨y265, hy265⟩ : ∃ y_ : List (Nat × List (S107)), y_ = (List.replicate (ji7 : Int).toNat ((0, []) : (Nat × List (S107)))) := ⟨_, rfl⟩
      replace H : (laws_toTermSSW.l0 kj2 l0 a1 y265 0) = some r := by first | (rw [hy265]; with_reducible exact H) | (have H2_ := (Option.bind_some _ _).symm.trans H; rw [hy265]; with_reducible exact H2_) | (have H2_ := (Option.bind_some _ _).symm.trans H; with_reducible exact H2_) | with_reducible exact H | (rw [hy265]; exact H) | exact H
      have Ny265 := Aside0.mk hy265
      clear hy265
      have H' := Aside0.mk H
      clear H
      go_wp2_with (first | ((with_reducible refine gate_callee (f := 55) rfl ?_); refine goesL_ (some 18) rfl rfl Try.func55 kf rfl #[.int .i64 (l0.length : Int)] rfl sm ?_; (with_reducible refine (laws_roomBehind.calls (l0.length : Int) t264 _ A6.out).mono ?_); rintro e w' ⟨rfl, ⟨nd, rfl⟩⟩; refine ⟨_, rfl, ?_⟩) | ((with_reducible refine gate_dst (N := 20) rfl ?_); (try (refine gate_guard (by rfl) ?_; dsimp only)); refine Kd.S_make (kPad 107 k107) _ 53 rfl (N := 20) rfl 72 _ _ rfl ji7 rfl rfl Try.underlying72 (.slice none 0 0) 24 info53 rfl (by decide) (by omega) ((0, []) : (Nat × List (S107))) (ok := fun _ => True) (okp := fun _ => True) ⟨_, rfl, RP_nil _ _ _ _ _⟩ (fun _ hk => hk) trivial (of_decide_eq_true am) (Nat.le_trans (Nat.mul_le_mul_right _ (of_decide_eq_true am : ji7.toNat ≤ 11728124029610)) (by omega)) (Below.refl _ _) (Nat.le_refl _) ?_; intro v266 w10 ho11 hb hg_ hnew_; clear hg_ hnew_; (first | rw [← Ny265.out] at ho11 | (simp only [Int.reduceToNat] at ho11; rw [← Ny265.out] at ho11)); have n0_ := Aside0.mk (Kd.S_lower ho11 (below_size bz)); have n1_ := Aside0.mk (below_step bz hb); clear HB; have HO267 := n0_; have HB := n1_; clear n0_ n1_; clear hb ho11))
      go_loopg [6] kj2 (fun kq v6 w' => ∃ (x5_2 : List (Nat × List (S107))) (x6_2 : Int), v6 = .int .i64 x6_2 ∧ Aside0 (laws_toTermSSW.l0 kq l0 a1 x5_2 x6_2 = some r) ∧ Aside0 (kq ≤ kj2) ∧ Aside0 (Kd.S (kPad 107 k107) 53 w' w.heap.size (fun _ => True) v266 x5_2) ∧ Aside0 (Below w.heap.size w w'))
      case atStart => exact ⟨(y265), (0), sr, H', ⟨Nat.le_refl _⟩, ⟨kS HO267⟩, ⟨bz⟩⟩
      case round =>
       clear H'
       try clear p2; try clear c4; try clear c5; try clear p6; try clear c8; try clear c8b0; try clear c8b1; try clear c9; try clear c9b0; try clear c9b1; try clear p2
       obtain ⟨x5_2, x6_2, rfl, HA, HK2, HO_5, HB⟩ := hrel
       cases gk with
       | zero => exact absurd HA.out (by simp [laws_toTermSSW.l0])
       | succ k2 =>
        have H := HA.out
        clear HA
        simp only [laws_toTermSSW.l0] at H
        by_cases c12 : x6_2 < (l0.length : Int)
        ·rw [if_pos c12] at H
         have c12b0 : decide (x6_2 < (l0.length : Int)) = true := decide_eq_true c12
         clear c12
         by_cases c13 : 0 ≤ x6_2
         ·rw [if_pos c13] at H
          have c13b0 : decide (0 ≤ x6_2) = true := decide_eq_true c13
          clear c13
          obtain ⟨t269, A14, H⟩ := bi H
          by_cases c15 : x6_2 < (x5_2.length : Int)
          ·rw [if_pos c15] at H
           have c15b0 : decide (x6_2 < (x5_2.length : Int)) = true := decide_eq_true c15
           clear c15
           obtain ⟨y272, hy272⟩ : ∃ y_ : List (Nat × List (S107)), y_ = (x5_2.set (x6_2 : Int).toNat t269) := ⟨_, rfl⟩
           replace H : (laws_toTermSSW.l0 k2 l0 a1 y272 (wrap64 (x6_2 + 1))) = some r := by first | (rw [hy272]; with_reducible exact H) | (have H2_ := (Option.bind_some _ _).symm.trans H; rw [hy272]; with_reducible exact H2_) | (have H2_ := (Option.bind_some _ _).symm.trans H; with_reducible exact H2_) | with_reducible exact H | (rw [hy272]; exact H) | exact H
           have Ny272 := Aside0.mk hy272
           clear hy272
           have H' := Aside0.mk H
           clear H
           have p268 : 0 ≤ (x6_2 : Int) := of_decide_eq_true am
           have q268 : x6_2 < (l0.length : Int) := of_decide_eq_true am
           obtain ⟨ad268, A268_0, c268_0, e268, hx268_0, hl268_0, hi268_0⟩ := at_L5 HR0.out x6_2 p268 q268
           cases e268
           replace hx268_0 := (HB.out.cell (World.block_lt_of_cell? w _ hx268_0)).trans hx268_0
           have HR268_0 := Aside0.mk hi268_0
           have HC268_0 := Aside0.mk hl268_0
           clear hi268_0 hl268_0
           replace p268 := eq_true p268
           replace q268 := eq_true q268
           go_wp2_with (first | ((with_reducible refine gate_callee (f := 32) rfl ?_); refine goesL_ (some 34) rfl rfl Try.func32 kf rfl #[.slice A268_0 (rd_L5 l0 x6_2).length c268_0, .bool a1] rfl sm ?_; (with_reducible refine (laws_toTermSP.calls k2 _ _ (rd_L5 l0 x6_2) a1 t269 _ ?side1 ?side2 A14.out).mono ?_); (case side1 => exact cb HR268_0); (case side2 => exact HC268_0.out); rintro e w17 ⟨v270, rfl, ho0, hb⟩; obtain ⟨Av270, cv270, ev270⟩ := RP_slice ho0; subst ev270; refine ⟨_, rfl, ?_⟩; have n0_ := Aside0.mk (Kd.S_elder' (kS HO_5) (RP_base ho0) hb); have n1_ := Aside0.mk (RP_lower ho0 (below_size bz)); have n2_ := Aside0.mk (below_step bz hb); clear HO_5; clear HB; have HO_5 := n0_; have HO271 := n1_; have HB := n2_; clear n0_ n1_ n2_; (try clear hb); (try clear hb2); (try clear hk); (try clear hi); (try clear ho0); have p16 : 0 ≤ (x6_2 : Int) := of_decide_eq_true am; have q16 : (x6_2 : Int) < ((x5_2.length : Int) : Int) := of_decide_eq_true am; obtain ⟨go16, co16, eo16, gb16, gl16, cl16, HG16⟩ := Kd.S_form HO_5.out (by omega); (first | cases eo16 | (injection eo16 with ea_ en_ ec_; (first | subst ea_ | (injection ea_ with ea_; subst ea_)); subst ec_; clear en_)); have GB16 := Aside0.mk gb16; have GG16 := Aside0.mk HG16; clear gb16 gl16 HG16; obtain ⟨_, ce16, hcl16, hM16, hcc16, hfr16, _, _⟩ := Kd.S_elem HO_5.out ((0, []) : (Nat × List (S107))) (x6_2 : Int) p16 q16; obtain ⟨ve16_0, rfl, ge16_0⟩ := hM16; have hx16_0 := hcc16 0 _ rfl; have hf16_0 := hfr16 0; (try simp only [show ((kPad 107 k107)).sz = 1 from rfl, Nat.mul_one, Nat.add_zero] at hx16_0); (try simp only [show ((kPad 107 k107)).sz = 1 from rfl, Nat.mul_one, Nat.add_zero] at hf16_0); clear hcl16 hcc16 hfr16; (try clear hM16); replace p16 := eq_true p16; replace q16 := eq_true q16; have n_ := Aside0.mk (Kd.S_mono (ok' := (fun k_ => some k_ ≠ ((Value.slice Av270 t269.1 cv270) : Value).ownBlock)) HO_5.out (fun k_ hk => hk.2)); clear HO_5; have HO_5 := n_; clear n_; have HX18 := Aside0.mk (show Kd.S (kPad 107 k107) 53 w17 w.heap.size (fun k_ => ((fun _ => True)) k_ ∧ ¬ ((fun k_ => some k_ = ((Value.slice Av270 t269.1 cv270) : Value).ownBlock)) k_) (.slice (some ⟨go16, 0, none⟩) x5_2.length co16) x5_2 from (by (with_reducible repeat (first | apply Kd.S_alloc | apply Kd.S_drewN | apply Kd.S_drew)); exact Kd.S_mono HO_5.out (fun k_ hk => ⟨trivial, fun e_ => hk e_⟩))); obtain ⟨oki18, ce18, hcl18, hM18, hcc18, hfr18, hoki18, hH18⟩ := Kd.S_elem HX18.out ((0, []) : (Nat × List (S107))) (x6_2 : Int) (of_decide_eq_true am) (by have h_ : (x6_2 : Int) < ((x5_2.length : Int) : Int) := of_decide_eq_true am; first | exact h_ | (have e_ := (Kd.S_reads' HO_5.out).1; omega) | simpa using h_); obtain ⟨ve18_0, rfl, ge18_0⟩ := hM18; have HP18 := Kd.S_seg hH18 (of_decide_eq_true am) (by have h_ : (x6_2 : Int) < ((x5_2.length : Int) : Int) := of_decide_eq_true am; first | exact h_ | (have e_ := (Kd.S_reads' HO_5.out).1; omega) | simpa using h_) (seg := [(Value.slice Av270 t269.1 cv270)]) (j := 0) (show 1 ≤ 1 from by decide) (x' := t269) (RP_row (RP_mono (RP_tight rfl (RP_mono (ok' := fun k_ => ((fun _ => True)) k_ ∧ k_ ≠ go16) (RP_apart' (HO271.out) (Kd.S_typed HO_5.out) (by decide)) (fun k_ hk => ⟨trivial, fun e_ => (hk.2) (by rw [e_]; rfl)⟩))) (fun _ h_ => Or.inr (h_)))) (fun _ hk => hk) (fun k_ hk_ => RP_own (RP_mono (ok' := fun k_ => ((fun _ => True)) k_ ∧ k_ ≠ go16) (RP_apart' (HO271.out) (Kd.S_typed HO_5.out) (by decide)) (fun k_ hk => ⟨trivial, fun e_ => (hk.2) (by rw [e_]; rfl)⟩)) k_ hk_.symm); have hx18_0 := hcc18 0 _ rfl; (try simp only [show ((kPad 107 k107)).sz = 1 from rfl, Nat.mul_one, Nat.add_zero] at hx18_0); have hf18_0 := hfr18 0; (try simp only [show ((kPad 107 k107)).sz = 1 from rfl, Nat.mul_one, Nat.add_zero] at hf18_0); clear hcl18 hcc18 hfr18 hoki18 hH18; (try clear hM18); (try simp only [show ((kPad 107 k107)).sz = 1 from rfl, Nat.mul_one, Nat.add_zero] at HP18)) | ((with_reducible refine gate_store (t := 53) (p := 35) rfl ?_); refine store_event (t := 53) (p := 35) (v := ?vo_w19) (w1 := (w17.setCell ⟨go16, (x6_2 : Int).toNat, none⟩ ((Value.slice Av270 t269.1 cv270)))) ?hg ?ho ?hn ?hr ?_; (case ho => rfl); (case hg => rfl); (case hn => rfl); (case hr => first | (go_simp; done) | (go_simp; rfl)); intro w19 hw; have hg : w17.grownBy w19 (some go16) := (by rw [hw]; exact HP18.2); have hp_ : Kd.S (kPad 107 k107) 53 w19 w.heap.size (fun _ => True) (.slice (some ⟨go16, 0, none⟩) x5_2.length co16) y272 := (by rw [hw, Ny272.out]; exact HP18.1); clear HP18; have n0_ := Aside0.mk (hp_); have n1_ := Aside0.mk ((by rw [hw]; exact below_set (HB.out) GB16.out : Below w.heap.size w w19)); clear HO_5; clear HB; clear HO271; have HO_5 := n0_; have HB := n1_; clear n0_ n1_; clear hg hw hp_))
           go_roundg k2
           case measure => have := HJ2.out; have := HK2.out; omega
           case rel => exact ⟨(y272), (wrap64 (x6_2 + 1)), sr, H', ⟨by have := HJ2.out; have := HK2.out; omega⟩, ⟨kS HO_5⟩, ⟨bz⟩⟩
          ·rw [if_neg c15] at H
           exact absurd H (by simp)
         ·rw [if_neg c13] at H
          exact absurd H (by simp)
        ·rw [if_neg c12] at H
         have c12b0 : decide (x6_2 < (l0.length : Int)) = false := decide_eq_false c12
         clear c12
         have H' := Aside0.mk H
         clear H
         go_wp2
         go_loopg [7] k2 (fun kq v7 w' => ∃ (x5_3 : List (Nat × List (S107))) (x7_3 : Int), v7 = .int .i64 x7_3 ∧ Aside0 (laws_toTermSSW.l1 kq l0 x5_3 x7_3 = some r) ∧ Aside0 (kq ≤ k2) ∧ Aside0 (Kd.S (kPad 107 k107) 53 w' w.heap.size (fun _ => True) v266 x5_3) ∧ Aside0 (Below w.heap.size w w'))
         case atStart => exact ⟨(x5_2), ((l0.length : Int)), sr, H', ⟨Nat.le_refl _⟩, ⟨kS HO_5⟩, ⟨bz⟩⟩
         case round =>
          clear H'
          try clear c1; try clear p1; try clear q1; try clear hx1; try clear c2; try clear p2; try clear q2; try clear hx2; try clear c3; try clear c4; try clear c5; try clear p6; try clear c8; try clear c8b0; try clear c8b1; try clear c9; try clear c9b0; try clear c9b1; try clear c12; try clear c12b0; try clear c13; try clear c13b0; try clear c15; try clear c15b0; try clear c16; try clear p16; try clear q16; try clear hx16; try clear hf16; try clear c18; try clear hx18; try clear hf18; try clear hx16_0; try clear hx18_0; try clear hx268_0; try clear p16; try clear p2; try clear p268; try clear p6; try clear q16; try clear q268
          obtain ⟨x5_3, x7_3, rfl, HA, HK3, HO_5, HB⟩ := hrel
          cases gk with
          | zero => exact absurd HA.out (by simp [laws_toTermSSW.l1])
          | succ k3 =>
           have H := HA.out
           clear HA
           simp only [laws_toTermSSW.l1] at H
           by_cases c20 : x7_3 < (x5_3.length : Int)
           ·rw [if_pos c20] at H
            have c20b0 : decide (x7_3 < (x5_3.length : Int)) = true := decide_eq_true c20
            clear c20
            obtain ⟨⟨t273, t274, t275, t276⟩, A21, H⟩ := bi H
            try dsimp only at H
            obtain ⟨y277, hy277⟩ : ∃ y_ : (Nat × List (S107)), y_ = ((([(⟨t273, t274, t275, t276⟩ : S107)] : List (S107)).length, ([(⟨t273, t274, t275, t276⟩ : S107)] : List (S107))) : (Nat × List (S107))) := ⟨_, rfl⟩
            replace H : (if 0 ≤ x7_3 then (laws_toTermSSW.l1 k3 l0 (x5_3.set (x7_3 : Int).toNat y277) (wrap64 (x7_3 + 1))) else (none)) = some r := by first | (rw [hy277]; with_reducible exact H) | (have H2_ := (Option.bind_some _ _).symm.trans H; rw [hy277]; with_reducible exact H2_) | (have H2_ := (Option.bind_some _ _).symm.trans H; with_reducible exact H2_) | with_reducible exact H | (rw [hy277]; exact H) | exact H
            have Ny277 := Aside0.mk hy277
            clear hy277
            by_cases c22 : 0 ≤ x7_3
            ·rw [if_pos c22] at H
             have c22b0 : decide (0 ≤ x7_3) = true := decide_eq_true c22
             clear c22
             obtain ⟨y280, hy280⟩ : ∃ y_ : List (Nat × List (S107)), y_ = (x5_3.set (x7_3 : Int).toNat y277) := ⟨_, rfl⟩
             replace H : (laws_toTermSSW.l1 k3 l0 y280 (wrap64 (x7_3 + 1))) = some r := by first | (rw [hy280]; with_reducible exact H) | (have H2_ := (Option.bind_some _ _).symm.trans H; rw [hy280]; with_reducible exact H2_) | (have H2_ := (Option.bind_some _ _).symm.trans H; with_reducible exact H2_) | with_reducible exact H | (rw [hy280]; exact H) | exact H
             have Ny280 := Aside0.mk hy280
             clear hy280
             have H' := Aside0.mk H
             clear H
             obtain ⟨Ao24, co24, eo24⟩ := Kd.S_slice HO_5.out
             subst eo24
             go_wp2_with (first | ((with_reducible refine gate_callee (f := 79) rfl ?_); refine goesL_ (some 46) rfl rfl Try.func79 kf rfl #[] rfl sm ?_; (with_reducible refine (laws_fillerTerm.calls  t273 t274 t275 t276 _ A21.out).mono ?_); rintro e w25 ⟨rfl, hb⟩; refine ⟨_, rfl, ?_⟩; have n0_ := Aside0.mk (Kd.S_below (kS HO_5) hb); have n1_ := Aside0.mk (below_step bz hb); clear HO_5; clear HB; have HO_5 := n0_; have HB := n1_; clear n0_ n1_; (try clear hb); (try clear hb2); (try clear hk); (try clear hi)) | ((with_reducible refine gate_dst (N := 47) rfl ?_); (try (refine gate_guard (by rfl) ?_; dsimp only)); refine Kd.R_lit k107 _ 107 ?hg (N := 47) ?hd (xs := ([(⟨t273, t274, t275, t276⟩ : S107)] : List (S107))) (inner := [.int .i64 t273, .int .i64 t274, .int .i64 t275, .int .i64 t276]) (ok := fun _ => True) (okp := fun _ => True) ?hr ?hp (fun _ hk => hk) trivial (Below.refl _ _) (Nat.le_refl _) (by simp) ?_; (case hd => rfl); (case hg => rfl); (case hr => first | (go_simp; done) | (go_simp; rfl)); (case hp => exact (Reps.c4 (show Kd.M k107 _ _ _ (⟨t273, t274, t275, t276⟩ : S107) [.int .i64 t273, .int .i64 t274, .int .i64 t275, .int .i64 t276] from (k107_mkM _ _ _ (⟨t273, t274, t275, t276⟩ : S107) )) (Reps.none _ _))); intro v278 w26 ho27 hb hg_ hnew_; clear hg_ hnew_; replace ho27 := RP_of ho27; (first | rw [← Ny277.out] at ho27 | (simp only [Int.reduceToNat] at ho27; rw [← Ny277.out] at ho27)); obtain ⟨Av278, cv278, ev278⟩ := RP_slice ho27; subst ev278; have n0_ := Aside0.mk (Kd.S_elder' (kS HO_5) (RP_base ho27) hb); have n1_ := Aside0.mk (RP_lower ho27 (below_size bz)); have n2_ := Aside0.mk (below_step bz hb); clear HO_5; clear HB; have HO_5 := n0_; have HO279 := n1_; have HB := n2_; clear n0_ n1_ n2_; clear hb ho27; have p23 : 0 ≤ (x7_3 : Int) := of_decide_eq_true am; have q23 : (x7_3 : Int) < ((x5_3.length : Int) : Int) := of_decide_eq_true am; obtain ⟨go23, co23, eo23, gb23, gl23, cl23, HG23⟩ := Kd.S_form HO_5.out (by omega); (first | cases eo23 | (injection eo23 with ea_ en_ ec_; (first | subst ea_ | (injection ea_ with ea_; subst ea_)); subst ec_; clear en_)); have GB23 := Aside0.mk gb23; have GG23 := Aside0.mk HG23; clear gb23 gl23 HG23; obtain ⟨_, ce23, hcl23, hM23, hcc23, hfr23, _, _⟩ := Kd.S_elem HO_5.out ((0, []) : (Nat × List (S107))) (x7_3 : Int) p23 q23; obtain ⟨ve23_0, rfl, ge23_0⟩ := hM23; have hx23_0 := hcc23 0 _ rfl; have hf23_0 := hfr23 0; (try simp only [show ((kPad 107 k107)).sz = 1 from rfl, Nat.mul_one, Nat.add_zero] at hx23_0); (try simp only [show ((kPad 107 k107)).sz = 1 from rfl, Nat.mul_one, Nat.add_zero] at hf23_0); clear hcl23 hcc23 hfr23; (try clear hM23); replace p23 := eq_true p23; replace q23 := eq_true q23; have n_ := Aside0.mk (Kd.S_mono (ok' := (fun k_ => some k_ ≠ ((Value.slice Av278 y277.1 cv278) : Value).ownBlock)) HO_5.out (fun k_ hk => hk.2)); clear HO_5; have HO_5 := n_; clear n_; have HX28 := Aside0.mk (show Kd.S (kPad 107 k107) 53 w26 w.heap.size (fun k_ => ((fun _ => True)) k_ ∧ ¬ ((fun k_ => some k_ = ((Value.slice Av278 y277.1 cv278) : Value).ownBlock)) k_) (.slice (some ⟨go23, 0, none⟩) x5_3.length co24) x5_3 from (by (with_reducible repeat (first | apply Kd.S_alloc | apply Kd.S_drewN | apply Kd.S_drew)); exact Kd.S_mono HO_5.out (fun k_ hk => ⟨trivial, fun e_ => hk e_⟩))); obtain ⟨oki28, ce28, hcl28, hM28, hcc28, hfr28, hoki28, hH28⟩ := Kd.S_elem HX28.out ((0, []) : (Nat × List (S107))) (x7_3 : Int) (of_decide_eq_true am) (by have h_ : (x7_3 : Int) < ((x5_3.length : Int) : Int) := of_decide_eq_true am; first | exact h_ | (have e_ := (Kd.S_reads' HO_5.out).1; omega) | simpa using h_); obtain ⟨ve28_0, rfl, ge28_0⟩ := hM28; have HP28 := Kd.S_seg hH28 (of_decide_eq_true am) (by have h_ : (x7_3 : Int) < ((x5_3.length : Int) : Int) := of_decide_eq_true am; first | exact h_ | (have e_ := (Kd.S_reads' HO_5.out).1; omega) | simpa using h_) (seg := [(Value.slice Av278 y277.1 cv278)]) (j := 0) (show 1 ≤ 1 from by decide) (x' := y277) (RP_row (RP_mono (RP_tight rfl (RP_mono (ok' := fun k_ => ((fun _ => True)) k_ ∧ k_ ≠ go23) (RP_apart' (HO279.out) (Kd.S_typed HO_5.out) (by decide)) (fun k_ hk => ⟨trivial, fun e_ => (hk.2) (by rw [e_]; rfl)⟩))) (fun _ h_ => Or.inr (h_)))) (fun _ hk => hk) (fun k_ hk_ => RP_own (RP_mono (ok' := fun k_ => ((fun _ => True)) k_ ∧ k_ ≠ go23) (RP_apart' (HO279.out) (Kd.S_typed HO_5.out) (by decide)) (fun k_ hk => ⟨trivial, fun e_ => (hk.2) (by rw [e_]; rfl)⟩)) k_ hk_.symm); have hx28_0 := hcc28 0 _ rfl; (try simp only [show ((kPad 107 k107)).sz = 1 from rfl, Nat.mul_one, Nat.add_zero] at hx28_0); have hf28_0 := hfr28 0; (try simp only [show ((kPad 107 k107)).sz = 1 from rfl, Nat.mul_one, Nat.add_zero] at hf28_0); clear hcl28 hcc28 hfr28 hoki28 hH28; (try clear hM28); (try simp only [show ((kPad 107 k107)).sz = 1 from rfl, Nat.mul_one, Nat.add_zero] at HP28)) | ((with_reducible refine gate_store (t := 53) (p := 48) rfl ?_); refine store_event (t := 53) (p := 48) (v := ?vo_w29) (w1 := (w26.setCell ⟨go23, (x7_3 : Int).toNat, none⟩ ((Value.slice Av278 y277.1 cv278)))) ?hg ?ho ?hn ?hr ?_; (case ho => rfl); (case hg => rfl); (case hn => rfl); (case hr => first | (go_simp; done) | (go_simp; rfl)); intro w29 hw; have hg : w26.grownBy w29 (some go23) := (by rw [hw]; exact HP28.2); have hp_ : Kd.S (kPad 107 k107) 53 w29 w.heap.size (fun _ => True) (.slice (some ⟨go23, 0, none⟩) x5_3.length co24) y280 := (by rw [hw, Ny280.out]; exact HP28.1); clear HP28; have n0_ := Aside0.mk (hp_); have n1_ := Aside0.mk ((by rw [hw]; exact below_set (HB.out) GB23.out : Below w.heap.size w w29)); clear HO_5; clear HB; clear HO279; have HO_5 := n0_; have HB := n1_; clear n0_ n1_; clear hg hw hp_))
             go_roundg k3
             case measure => have := HJ2.out; have := HK2.out; have := HK3.out; omega
             case rel => exact ⟨(y280), (wrap64 (x7_3 + 1)), sr, H', ⟨by have := HJ2.out; have := HK2.out; have := HK3.out; omega⟩, ⟨kS HO_5⟩, ⟨bz⟩⟩
            ·rw [if_neg c22] at H
             exact absurd H (by simp)
           ·rw [if_neg c20] at H
            have c20b0 : decide (x7_3 < (x5_3.length : Int)) = false := decide_eq_false c20
            clear c20
            by_cases c30 : 0 ≤ (l0.length : Int)
            ·rw [if_pos c30] at H
             have c30b0 := eq_true c30
             have c30b1 : decide (0 ≤ (l0.length : Int)) = true := decide_eq_true c30
             clear c30
             by_cases c31 : (l0.length : Int) ≤ (x5_3.length : Int)
             ·rw [if_pos c31] at H
              have c31b0 := eq_true c31
              have c31b1 : decide ((l0.length : Int) ≤ (x5_3.length : Int)) = true := decide_eq_true c31
              clear c31
              obtain ⟨y281, hy281⟩ : ∃ y_ : List (Nat × List (S107)), y_ = (x5_3.take ((l0.length : Int) : Int).toNat) := ⟨_, rfl⟩
              have Ny281 := Aside0.mk hy281
              clear hy281
              have HR_ := Aside0.mk (Option.some.inj H)
              obtain ⟨Ao32, co32, eo32⟩ := Kd.S_slice HO_5.out
              subst eo32
              have q33 : ((l0.length : Int) : Int) ≤ ((x5_3.length : Int) : Int) := of_decide_eq_true am
              obtain ⟨i033, hi033, _, hsz33, _⟩ := info_parts info53
              have hcut33 := cut_to (P := Try.prog) 72 53 .i64 Try.underlying72 hi033 Ao32 x5_3.length co32 (l0.length : Int) (of_decide_eq_true am) q33 (Kd.S_reads' HO_5.out).2.1
              have hr33 := Kd.S_take (m := ((l0.length : Int) : Int).toNat) HO_5.out (by omega)
              have hy33 : y281.length = ((l0.length : Int) : Int).toNat := (by rw [Ny281.out, List.length_take]; omega)
              rw [← Ny281.out] at hr33
              rw [← hy33] at hr33 hcut33
              have HY_ : Aside0 (y281.length = l0.length) := ⟨by rw [hy33]; simp⟩
              clear hy33 hi033 hsz33
              have HO283 := Aside0.mk hr33
              clear hr33
              replace q33 := eq_true q33
              go_wp2
              go_ret
              exact ⟨Ao32, co32, by first | rfl | (rw [HY_.out]; done) | (simp [HY_.out]; done), by rw [← HR_.out]; (with_reducible repeat (first | apply Kd.S_alloc | apply Kd.S_drewN | apply Kd.S_drew)); first | exact HO_5.out | exact Kd.S_mono HO_5.out (fun _ _ => trivial), bz⟩
             ·rw [if_neg c31] at H
              exact absurd H (by simp)
            ·rw [if_neg c30] at H
             exact absurd H (by simp)
     ·rw [if_neg c9] at H
      exact absurd H (by simp)
    ·rw [if_neg c8] at H
     exact absurd H (by simp)
theorem toTermSS_pad (kw : Nat) (A0 : Option Addr) (c0 : Nat) (l : List (List S109)) (q : List (List S107)) (P : List (Nat × List S107)) (w : World) (hr : Kd.C (Kd.slice 109 k109) w A0 l.length l) (hc : l.length ≤ c0) (hw : laws_toTermSSW.f kw l false = some P) (hq : q.length = l.length) :
 Calls Try.prog 46 #[.slice A0 l.length c0, .bool false] w fun e w' => ∃ (A : Option Addr) (c : Nat), e = .returned (.slice A q.length c) ∧ Kd.S (kPad 107 k107) 53 w' w.heap.size (fun _ => True) (.slice A P.length c) P ∧ Below w.heap.size w w' := by
 refine (laws_toTermSSW.calls kw A0 c0 l false P w hr hc hw).mono ?_
 rintro e w' ⟨A, c, he, h1, h2⟩
 exact ⟨A, c, by rw [hq]; exact he, h1, h2⟩
def peTermS (q : List S109) : Nat × List S107 := (q.length, padTermS q)
def feTermS : Nat × List S107 := (([fillTermS] : List S107).length, ([fillTermS] : List S107))
def padTermSS (l : List (List S109)) : List (Nat × List S107) := l.map peTermS ++ List.replicate (room l.length) feTermS
theorem padTermSS_length (l : List (List S109)) : (padTermSS l).length = l.length + room l.length := by simp [padTermSS]
theorem toTermSP_eq (k : Nat) (q : List S109) (h : q.length ≤ 1000000) : laws_toTermSP.f k q false = some (peTermS q) := by
 unfold laws_toTermSP.f
 rw [if_pos ⟨rfl, h⟩]
 rfl
theorem toTermSSW_l1 (l : List (List S109)) (F : Nat) (hF : F ≤ 3000000) (hlF : l.length ≤ F) (d : Nat) : ∀ (k i : Nat), l.length ≤ i → i ≤ F → F - i = d → d < k → laws_toTermSSW.l1 k l (l.map peTermS ++ (List.replicate (i - l.length) feTermS ++ List.replicate (F - i) (0, []))) (i : Int) = some (l.map peTermS ++ List.replicate (F - l.length) feTermS) := by
 induction d with
 | zero =>
  intro k i h0 h1 hd hk
  obtain ⟨k, rfl⟩ : ∃ m, k = m + 1 := ⟨k - 1, by omega⟩
  have e : i = F := by omega
  subst e
  simp only [laws_toTermSSW.l1]; rw [if_neg (by simp only [List.length_append, List.length_replicate, List.length_map]; omega), if_pos (by omega), if_pos (by simp only [List.length_append, List.length_replicate, List.length_map]; omega)]
  simp
 | succ d ih =>
  intro k i h0 h1 hd hk
  obtain ⟨k, rfl⟩ : ∃ m, k = m + 1 := ⟨k - 1, by omega⟩
  have hs := set_fill2G (l.map peTermS) (0, []) feTermS F i (by simpa using h0) (by omega)
  simp only [List.length_map] at hs
  simp only [laws_toTermSSW.l1]; rw [if_pos (by simp only [List.length_append, List.length_replicate, List.length_map]; omega), show laws_fillerTerm.f = some ((-7000000000000000101), (-7000000000000000101), (-7000000000000000101), (-7000000000000000101)) from rfl, Option.bind_some, if_pos (by omega), show wrap64 ((i : Int) + 1) = ((i + 1 : Nat) : Int) by unfold wrap64; omega, Int.toNat_natCast]
  change laws_toTermSSW.l1 k l ((l.map peTermS ++ (List.replicate (i - l.length) feTermS ++ List.replicate (F - i) (0, []))).set i feTermS) _ = _
  rw [hs]
  exact ih k (i + 1) (by omega) (by omega) (by omega) (by omega)
theorem toTermSSW_l0 (l : List (List S109)) (hq : ∀ q ∈ l, q.length ≤ 1000000) (F : Nat) (hF : F ≤ 3000000) (hlF : l.length ≤ F) (d : Nat) : ∀ (k i : Nat), i ≤ l.length → l.length - i = d → d + F + 2 < k → laws_toTermSSW.l0 k l false ((l.map peTermS).take i ++ List.replicate (F - i) (0, [])) (i : Int) = some (l.map peTermS ++ List.replicate (F - l.length) feTermS) := by
 induction d with
 | zero =>
  intro k i h1 hd hk
  obtain ⟨k, rfl⟩ : ∃ m, k = m + 1 := ⟨k - 1, by omega⟩
  have e : i = l.length := by omega
  subst e
  simp only [laws_toTermSSW.l0]; rw [if_neg (by omega)]
  have h := toTermSSW_l1 l F hF hlF (F - l.length) k l.length (Nat.le_refl _) hlF rfl (by omega)
  simp only [Nat.sub_self, List.replicate_zero, List.nil_append] at h
  rw [List.take_of_length_le (by simp)]
  exact h
 | succ d ih =>
  intro k i h1 hd hk
  obtain ⟨k, rfl⟩ : ∃ m, k = m + 1 := ⟨k - 1, by omega⟩
  have hi : i < l.length := by omega
  have hs := set_fillG (l.map peTermS) (0, []) F i (by simpa using hi) (by simpa using hlF)
  have hr : rd_L5 l (i : Int) = l[i] := by simp [rd_L5, hi]
  simp only [laws_toTermSSW.l0]; rw [if_pos (by omega), if_pos (by omega), hr, toTermSP_eq k l[i] (hq _ (List.getElem_mem hi)), Option.bind_some, if_pos (by simp only [List.length_append, List.length_take, List.length_replicate, List.length_map]; omega), show wrap64 ((i : Int) + 1) = ((i + 1 : Nat) : Int) by unfold wrap64; omega, Int.toNat_natCast]
  have hc : peTermS l[i] = (l.map peTermS)[i]'(by simpa using hi) := by simp
  rw [hc, hs]
  exact ih k (i + 1) (by omega) (by omega) (by omega)
theorem toTermSS_whole (l : List (List S109)) (hn : l.length ≤ 1000000) (hq : ∀ q ∈ l, q.length ≤ 1000000) : ∃ k, laws_toTermSSW.f k l false = some (padTermSS l) := by
 refine ⟨(l.length + (l.length + room l.length) + 3) + 1, ?_⟩
 have hr := room_le l.length
 have hw : wrap64 ((l.length : Int) + (room l.length : Int)) = ((l.length + room l.length : Nat) : Int) := by unfold wrap64; omega
 have h := toTermSSW_l0 l hq (l.length + room l.length) (by omega) (by omega) l.length (l.length + (l.length + room l.length) + 3) 0 (by omega) (by omega) (by omega)
 unfold laws_toTermSSW.f
 rw [if_neg (by decide)]
 simp only [laws_toTermSSW.j0]
 rw [if_neg (by decide), roomBehind_eq, Option.bind_some, hw, if_pos (by omega), Int.toNat_natCast, if_pos (by omega)]
 unfold padTermSS
 rw [show l.length + room l.length - l.length = room l.length by omega] at h
 simpa using h
theorem toTermS_bareAll (l : List (List S109)) (hq : ∀ q ∈ l, q.length ≤ 1000000) : ∃ K, ∀ q ∈ l, laws_toTermS.f K q true = some (q.map cvTermS) := by
 induction l with
 | nil => exact ⟨0, fun q h => absurd h (by simp)⟩
 | cons a t ih =>
  obtain ⟨K, hK⟩ := ih (fun q h => hq q (List.mem_cons_of_mem _ h))
  obtain ⟨k, hk⟩ := toTermS_bare a (hq a List.mem_cons_self)
  refine ⟨K + k, fun q h => ?_⟩
  rcases List.mem_cons.1 h with rfl | h
  ·exact at_rounds (g := fun k => laws_toTermS.f k q true) (fun k => laws_toTermS.mono _ _ k) (Nat.le_add_left _ _) hk
  ·exact at_rounds (g := fun k => laws_toTermS.f k q true) (fun k => laws_toTermS.mono _ _ k) (Nat.le_add_right _ _) (hK q h)
theorem toTermSS_l1 (l : List (List S109)) (F : Nat) (hF : F ≤ 3000000) (hlF : l.length ≤ F) (d : Nat) : ∀ (k i : Nat), l.length ≤ i → i ≤ F → F - i = d → d < k → laws_toTermSS.l1 k l (l.map (List.map cvTermS) ++ (List.replicate (i - l.length) [fillTermS] ++ List.replicate (F - i) [])) (i : Int) = some (l.map (List.map cvTermS)) := by
 induction d with
 | zero =>
  intro k i h0 h1 hd hk
  obtain ⟨k, rfl⟩ : ∃ m, k = m + 1 := ⟨k - 1, by omega⟩
  have e : i = F := by omega
  subst e
  simp only [laws_toTermSS.l1]; rw [if_neg (by simp only [List.length_append, List.length_replicate, List.length_map]; omega), if_pos (by omega), if_pos (by simp only [List.length_append, List.length_replicate, List.length_map]; omega)]
  simp
 | succ d ih =>
  intro k i h0 h1 hd hk
  obtain ⟨k, rfl⟩ : ∃ m, k = m + 1 := ⟨k - 1, by omega⟩
  have hs := set_fill2G (l.map (List.map cvTermS)) ([] : List S107) [fillTermS] F i (by simpa using h0) (by omega)
  simp only [List.length_map] at hs
  simp only [laws_toTermSS.l1]; rw [if_pos (by simp only [List.length_append, List.length_replicate, List.length_map]; omega), show laws_fillerTerm.f = some ((-7000000000000000101), (-7000000000000000101), (-7000000000000000101), (-7000000000000000101)) from rfl, Option.bind_some, if_pos (by omega), show wrap64 ((i : Int) + 1) = ((i + 1 : Nat) : Int) by unfold wrap64; omega, Int.toNat_natCast]
  change laws_toTermSS.l1 k l ((l.map (List.map cvTermS) ++ (List.replicate (i - l.length) [fillTermS] ++ List.replicate (F - i) [])).set i [fillTermS]) _ = _
  rw [hs]
  exact ih k (i + 1) (by omega) (by omega) (by omega) (by omega)
theorem toTermSS_l0 (l : List (List S109)) (K : Nat) (hK : ∀ q ∈ l, laws_toTermS.f K q true = some (q.map cvTermS)) (F : Nat) (hF : F ≤ 3000000) (hlF : l.length ≤ F) (d : Nat) : ∀ (k i : Nat), i ≤ l.length → l.length - i = d → d + F + K + 2 < k → laws_toTermSS.l0 k l true ((l.map (List.map cvTermS)).take i ++ List.replicate (F - i) []) (i : Int) = some (l.map (List.map cvTermS)) := by
 induction d with
 | zero =>
  intro k i h1 hd hk
  obtain ⟨k, rfl⟩ : ∃ m, k = m + 1 := ⟨k - 1, by omega⟩
  have e : i = l.length := by omega
  subst e
  simp only [laws_toTermSS.l0]; rw [if_neg (by omega)]
  have h := toTermSS_l1 l F hF hlF (F - l.length) k l.length (Nat.le_refl _) hlF rfl (by omega)
  simp only [Nat.sub_self, List.replicate_zero, List.nil_append] at h
  rw [List.take_of_length_le (by simp)]
  exact h
 | succ d ih =>
  intro k i h1 hd hk
  obtain ⟨k, rfl⟩ : ∃ m, k = m + 1 := ⟨k - 1, by omega⟩
  have hi : i < l.length := by omega
  have hs := set_fillG (l.map (List.map cvTermS)) ([] : List S107) F i (by simpa using hi) (by simpa using hlF)
  have hr : rd_L5 l (i : Int) = l[i] := by simp [rd_L5, hi]
  have hk2 : laws_toTermS.f k l[i] true = some (l[i].map cvTermS) := at_rounds (g := fun k => laws_toTermS.f k l[i] true) (fun k => laws_toTermS.mono _ _ k) (by omega) (hK _ (List.getElem_mem hi))
  simp only [laws_toTermSS.l0]; rw [if_pos (by omega), if_pos (by omega), hr, hk2, Option.bind_some, if_pos (by simp only [List.length_append, List.length_take, List.length_replicate, List.length_map]; omega), show wrap64 ((i : Int) + 1) = ((i + 1 : Nat) : Int) by unfold wrap64; omega, Int.toNat_natCast]
  have hc : l[i].map cvTermS = (l.map (List.map cvTermS))[i]'(by simpa using hi) := by simp
  rw [hc, hs]
  exact ih k (i + 1) (by omega) (by omega) (by omega)
theorem toTermSS_bare (l : List (List S109)) (hn : l.length ≤ 1000000) (hq : ∀ q ∈ l, q.length ≤ 1000000) : ∃ k, laws_toTermSS.f k l true = some (l.map (List.map cvTermS)) := by
 obtain ⟨K, hK⟩ := toTermS_bareAll l hq
 refine ⟨(l.length + (l.length + room l.length) + K + 3) + 1, ?_⟩
 unfold laws_toTermSS.f
 rw [if_pos rfl]
 by_cases h : l = []
 ·subst h
  rfl
 ·have e : ((l.length : Int) == 0) = false := by
   have : 0 < l.length := List.length_pos_iff.2 h
   simp only [beq_eq_false_iff_ne]; omega
  rw [e]
  have hr := room_le l.length
  have hw : wrap64 ((l.length : Int) + (room l.length : Int)) = ((l.length + room l.length : Nat) : Int) := by unfold wrap64; omega
  have h := toTermSS_l0 l K hK (l.length + room l.length) (by omega) (by omega) l.length (l.length + (l.length + room l.length) + K + 3) 0 (by omega) (by omega) (by omega)
  simp only [laws_toTermSS.j0]
  rw [if_neg (by decide), roomBehind_eq, Option.bind_some, hw, if_pos (by omega), Int.toNat_natCast, if_pos (by omega)]
  simpa using h
theorem told_peTermS (q : List S109) : told (peTermS q) = q.map cvTermS := by
 unfold told peTermS padTermS
 rw [List.take_append_of_le_length (by simp), List.take_of_length_le (by simp)]
theorem padTermSS_told (l : List (List S109)) : ∃ f, (padTermSS l).map told = l.map (List.map cvTermS) ++ f := by
 refine ⟨(List.replicate (room l.length) feTermS).map told, ?_⟩
 unfold padTermSS
 rw [List.map_append, List.map_map]
 congr 1
 exact List.map_congr_left (fun q _ => told_peTermS q)
theorem szTermSS_l0 (l : List (List S109)) (hl : l.length ≤ 9223372036854775807) (hq : ∀ q ∈ l, q.length ≤ 9223372036854775807) (d : Nat) : ∀ (k i : Nat) (left : Int), i ≤ l.length → l.length - i = d → d < k → 0 ≤ left → left ≤ 1000000 → laws_szTermSS.l0 k l left (i : Int) = some (if (total (l.drop i) : Int) ≤ left then left - total (l.drop i) else -1) := by
 induction d with
 | zero =>
  intro k i left h0 hd hk h1 h2
  obtain ⟨k, rfl⟩ : ∃ m, k = m + 1 := ⟨k - 1, by omega⟩
  have e : l.drop i = [] := List.drop_eq_nil_of_le (by omega)
  simp only [laws_szTermSS.l0]; rw [if_neg (by omega), e, if_pos (by simpa [total] using h1)]
  simp [total]
 | succ d ih =>
  intro k i left h0 hd hk h1 h2
  obtain ⟨k, rfl⟩ : ∃ m, k = m + 1 := ⟨k - 1, by omega⟩
  have hi : i < l.length := by omega
  have hr : rd_L5 l (i : Int) = l[i] := by simp [rd_L5, hi]
  have hb := hq _ (List.getElem_mem hi)
  have ht := total_drop l i hi
  have hw : wrap64 (left - (l[i].length : Int)) = left - (l[i].length : Int) := by unfold wrap64; omega
  simp only [laws_szTermSS.l0]; rw [if_pos (by omega), if_pos (by omega), hr]
  unfold laws_szTermS.f
  rw [hw, show wrap64 ((i : Int) + 1) = ((i + 1 : Nat) : Int) by unfold wrap64; omega]
  by_cases hc : left - (l[i].length : Int) < 0
  ·rw [if_pos hc, Option.bind_some, if_pos (by omega), if_neg (by rw [ht]; omega)]
  ·rw [if_neg hc, Option.bind_some, if_neg hc, ih k (i + 1) _ (by omega) (by omega) (by omega) (by omega) (by omega), ht]
   by_cases hx : (total (l.drop (i + 1)) : Int) ≤ left - (l[i].length : Int)
   ·rw [if_pos hx, if_pos (by omega)]; congr 1; omega
   ·rw [if_neg hx, if_neg (by omega)]
theorem szTermSS_eq (l : List (List S109)) (hl : l.length ≤ 9223372036854775807) (hq : ∀ q ∈ l, q.length ≤ 9223372036854775807) (left : Int) (h1 : 0 ≤ left) (h2 : left ≤ 1000000) : ∃ k, laws_szTermSS.f k l left = some (if (l.length : Int) + (total l : Int) ≤ left then left - ((l.length : Int) + (total l : Int)) else -1) := by
 refine ⟨l.length + 1, ?_⟩
 unfold laws_szTermSS.f
 have hw : wrap64 (left - (l.length : Int)) = left - (l.length : Int) := by unfold wrap64; omega
 rw [hw]
 by_cases hc : left - (l.length : Int) < 0
 ·rw [if_pos hc, if_neg (by omega)]
 ·rw [if_neg hc]
  have h := szTermSS_l0 l hl hq l.length (l.length + 1) 0 (left - (l.length : Int)) (by omega) (by omega) (by omega) (by omega) (by omega)
  rw [List.drop_zero] at h
  simp only [Int.natCast_zero] at h
  refine h.trans ?_
  by_cases hx : (total l : Int) ≤ left - (l.length : Int)
  ·rw [if_pos hx, if_pos (by omega)]; congr 1; omega
  ·rw [if_neg hx, if_neg (by omega)]
theorem eqTermSS_loop (l : List (List S107)) (hn : l.length ≤ 1000000000) (hq : ∀ q ∈ l, q.length ≤ 1000000000) (K : Nat) (hK : ∀ q ∈ l, q.length < K) (d : Nat) : ∀ (k : Nat) (i : Nat), i ≤ l.length → l.length - i = d → d + K < k → laws_eqTermSS.l0 k l l (i : Int) = some true := by
 induction d with
 | zero =>
  intro k i h0 hd hk
  obtain ⟨k, rfl⟩ : ∃ m, k = m + 1 := ⟨k - 1, by omega⟩
  simp only [laws_eqTermSS.l0]; rw [if_neg (by omega)]
 | succ d ih =>
  intro k i h0 hd hk
  obtain ⟨k, rfl⟩ : ∃ m, k = m + 1 := ⟨k - 1, by omega⟩
  have hi : i < l.length := by omega
  have hr : rd_L3 l (i : Int) = l[i] := by simp [rd_L3, hi]
  have hk2 : laws_eqTermS.f k l[i] l[i] = some true := at_rounds (g := fun k => laws_eqTermS.f k l[i] l[i]) (fun k => laws_eqTermS.mono _ _ k) (by have := hK _ (List.getElem_mem hi); omega) (eqTermS_self l[i] (hq _ (List.getElem_mem hi)))
  simp only [laws_eqTermSS.l0]; rw [if_pos (by omega), if_pos (by omega), if_pos (by omega), hr, hk2, Option.bind_some, if_pos rfl, show wrap64 ((i : Int) + 1) = ((i + 1 : Nat) : Int) by unfold wrap64; omega]
  exact ih k (i + 1) (by omega) (by omega) (by omega)
theorem eqTermSS_self (l : List (List S107)) (hn : l.length ≤ 1000000000) (hq : ∀ q ∈ l, q.length ≤ 1000000000) : ∃ k, laws_eqTermSS.f k l l = some true := by
 obtain ⟨K, hK⟩ := lens_bound l
 refine ⟨l.length + K + 1, ?_⟩
 unfold laws_eqTermSS.f
 rw [if_pos rfl]
 exact eqTermSS_loop l hn hq K hK l.length (l.length + K + 1) 0 (by omega) (by omega) (by omega)
theorem padTermSS_eq (l : List (List S109)) (hn : l.length ≤ 1000000) : ∃ k, laws_eqTermSS.f k (((padTermSS l).drop l.length).map told) (((padTermSS l).drop l.length).map told) = some true := by
 have hr := room_le l.length
 refine eqTermSS_self _ (by simp [padTermSS_length]; omega) (fun q hq => ?_)
 obtain ⟨x, hx, rfl⟩ := List.mem_map.1 hq
 have hx2 : x ∈ List.replicate (room l.length) feTermS := by
  unfold padTermSS at hx
  rw [List.drop_append_of_le_length (by simp), List.drop_eq_nil_of_le (by simp), List.nil_append] at hx
  exact hx
 obtain rfl := (List.mem_replicate.1 hx2).2
 decide
theorem padTermSS_in (l : List (List S109)) (hq : ∀ q ∈ l, q.length ≤ 1000000) : ∀ x ∈ (padTermSS l).take l.length, x.2.length = x.1 + room x.1 ∧ x.1 ≤ 1000000 := by
 intro x hx
 unfold padTermSS at hx
 rw [List.take_append_of_le_length (by simp), List.take_of_length_le (by simp)] at hx
 obtain ⟨q, hm, rfl⟩ := List.mem_map.1 hx
 exact ⟨padTermS_length q, hq q hm⟩
theorem cut_mid_room {P : Program} (t e : TypeId) (kl kh : IntKind) {i : TypeInfo} (ht : P.underlying t = some (.slice e)) (hi : P.info? e = some i) (size : Nat) (hsz : i.size = size) (A : Option Addr) (n c : Nat) (lo hi' : Int) (h0 : 0 ≤ lo) (h1 : lo ≤ hi') (h2 : hi' ≤ c) :
 ∀ W : World, (Instr.slice t (.slice A n c) (some (.int kl lo)) (some (.int kh hi')) none).run P W = .ok (.slice (if c = lo.toNat then A else A.map (·.add (lo.toNat * size))) (hi'.toNat - lo.toNat) (c - lo.toNat)) W := by
 intro W
 have hel : P.elem t = e := by simp [Program.elem, ht]
 have hu : P.underlying t = some (.slice (P.elem t)) := by rw [hel]; exact ht
 rw [run_slice_lh W t A n c hu kl kh lo hi' h0 h1 h2, hel]
 simp [sizeOf, typeInfo, hi, hsz, sliced, Result.andThen]
theorem at_kPad {α : Type} {e : Nat} {d : Kd α} {w : World} {A : Option Addr} {n : Nat} {xs : List (Nat × List α)} (h : Kd.C (kPad e d) w A n xs) (i : Int) (h0 : 0 ≤ i) (h1 : i < n) : ∃ ad A0 c0 y, A = some ad ∧ xs[i.toNat]? = some y ∧ w.cell? (ad.add i.toNat) = some (.slice A0 y.1 c0) ∧ y.1 ≤ y.2.length ∧ y.2.length ≤ c0 ∧ Kd.C d w A0 y.2.length y.2 := by
 have hl := h.1
 obtain ⟨ad, e_, hc⟩ := h.2.2 (by omega)
 have hi : i.toNat < xs.length := by omega
 obtain ⟨c, _, hK, hcell⟩ := hc i.toNat _ (List.getElem?_eq_getElem hi)
 obtain ⟨A0, c0, rfl, h2, h3, h4⟩ := hK
 have h5 : ∀ j u, [Value.slice A0 xs[i.toNat].1 c0][j]? = some u → w.cell? (ad.add (i.toNat * 1 + j)) = some u := hcell
 have h6 := h5 0 _ rfl
 rw [Nat.mul_one, Nat.add_zero] at h6
 exact ⟨ad, A0, c0, _, e_, List.getElem?_eq_getElem hi, h6, h2, h3, h4⟩
def laws_intactTermSS.T7 : Bool × List (List Nat × List Nat) := (true, [([], []), ([], []), ([0, 1], [0, 1]), ([2], [2]), ([], []), ([], []), ([4, 5], [4, 5]), ([6], [6]), ([3, 7], [3, 7]), ([8], [8])])
def laws_intactTermSS.B7 : List Nat := [0, 0, 3, 7, 0, 0, 48, 112, 255, 511]
theorem laws_intactTermSS.tab7 : rtab .any (opsOf Try.f49 7) = laws_intactTermSS.T7 := by kernel_rfl
theorem laws_intactTermSS.bits7 : waitsOk laws_intactTermSS.T7.2 laws_intactTermSS.B7 = true := by kernel_rfl
def laws_intactTermSS.T9 : Bool × List (List Nat × List Nat) := (true, [([], []), ([], []), ([1], [1]), ([], []), ([0, 2, 3], [0, 2, 3]), ([], []), ([], []), ([6], [6]), ([], []), ([5, 7, 8], [5, 7, 8]), ([4, 9], [4, 9]), ([10, 10, 0, 1, 2, 3, 4, 5, 6, 7, 8, 9, 10], [10])])
def laws_intactTermSS.B9 : List Nat := [0, 0, 2, 0, 15, 0, 0, 64, 0, 480, 1023, 2047]
theorem laws_intactTermSS.tab9 : rtab .any (opsOf Try.f49 9) = laws_intactTermSS.T9 := by kernel_rfl
theorem laws_intactTermSS.bits9 : waitsOk laws_intactTermSS.T9.2 laws_intactTermSS.B9 = true := by kernel_rfl
set_option maxHeartbeats 8000000 in
set_option maxRecDepth 100000 in
theorem intactTermSS_pad (ke : Nat) (A0 A1 : Option Addr) (c0 c1 n : Nat) (p : List (Nat × List (S107))) (w : World) (hr0 : Kd.C (kPad 107 k107) w A0 p.length p) (hc0 : p.length ≤ c0) (hr1 : Kd.C (kPad 107 k107) w A1 p.length p) (hc1 : p.length ≤ c1) (hp : p.length = n + room n) (hn : n ≤ 1000000) (hin : ∀ x ∈ p.take n, x.2.length = x.1 + room x.1 ∧ x.1 ≤ 1000000) (he : laws_eqTermSS.f ke ((p.drop n).map told) ((p.drop n).map told) = some true) :
 Calls Try.prog 49 #[.slice A0 n c0, .slice A1 n c1] w fun e w' => e = .returned (.bool true) ∧ Below w.heap.size w w' := by
 have hm := Aside0.mk (roomBehind_eq n)
 have hmb := room_le n
 have H0 := Aside0.mk hr0
 have H1 := Aside0.mk hr1
 have HC0 := Aside0.mk hc0
 have HC1 := Aside0.mk hc1
 have HIN := Aside0.mk hin
 have HE := Aside0.mk he
 have HN := Aside0.mk hn
 have HB := Aside0.mk (Below.refl w.heap.size w)
 obtain ⟨m, hmm⟩ : ∃ m, room n = m := ⟨_, rfl⟩
 rw [hmm] at hm hmb hp
 have HP := Aside0.mk hp
 have hFw : (IntKind.i64.wrap ((n : Int) + (m : Int))) = (p.length : Int) := by rw [i64_w]; unfold wrap64; omega
 have hFw2 : wrap64 ((n : Int) + (m : Int)) = (p.length : Int) := by unfold wrap64; omega
 have c4b0 : ((n : Int) == (n : Int)) = true := by simp
 have c4b1 : ((n : Int) != (n : Int)) = false := by simp
 have c4b2 : (n == n) = true := by simp
 clear hr0 hr1 hc0 hc1 hin he hn hp hmm hmb
 go_enter Try.func49, Try.ntmps49
 go_wp2_with (first | ((with_reducible refine gate_callee (f := 55) rfl ?_); refine goesL_ (some 11) rfl rfl Try.func55 kf rfl #[.int .i64 (n : Int)] rfl sm ?_; (with_reducible refine (laws_roomBehind.calls (n : Int) (m : Int) _ hm.out).mono ?_); rintro e w' ⟨rfl, ⟨nd, rfl⟩⟩; refine ⟨_, rfl, ?_⟩))
 go_loopg [6] (n + 1) (fun kq v6 w' => ∃ x : Int, v6 = .int .i64 x ∧ Aside0 (0 ≤ x ∧ x ≤ n ∧ x + kq = n + 1) ∧ Aside0 (Below w.heap.size w w'))
 case atStart => exact ⟨0, rfl, ⟨by omega⟩, ⟨bz⟩⟩
 case round =>
  clear c4b0 c4b1 c4b2 HB
  obtain ⟨x, rfl, HI, HB⟩ := hrel
  cases gk with
  | zero => exact absurd HI.out (by omega)
  | succ k1 =>
   by_cases hlt : x < (n : Int)
   ·have cc1 : decide (x < (n : Int)) = true := decide_eq_true hlt
    have cc2 : decide (0 ≤ x) = true := decide_eq_true HI.out.1
    have hpl : x < (p.length : Int) := by have := HP.out; omega
    try go_wp2
    have n0_ := Aside0.mk (below_drew1 HB.out)
    clear HB
    have HB := n0_
    clear n0_
    obtain ⟨ad0, B0, b0, y0, e0, g0, hx0, hy0, hz0, hC0⟩ := at_kPad H0.out x HI.out.1 hpl
    obtain ⟨ad1, B1, b1, y1, e1, g1, hx1, hy1, hz1, hC1⟩ := at_kPad H1.out x HI.out.1 hpl
    obtain rfl : y0 = y1 := Option.some.inj (g0.symm.trans g1)
    have hmem : y0 ∈ p.take n := by
     refine List.mem_iff_getElem?.2 ⟨x.toNat, ?_⟩
     rw [List.getElem?_take_of_lt (by have := HI.out; omega)]
     exact g0
    have HY := Aside0.mk (HIN.out y0 hmem)
    have D0 := Aside0.mk hC0
    have D1 := Aside0.mk hC1
    have Z0 := Aside0.mk hz0
    have Z1 := Aside0.mk hz1
    have hw0 := hx0
    have hw1 := hx1
    cases e0
    cases e1
    replace hx0 := (HB.out.cell (World.block_lt_of_cell? w _ hx0)).trans hx0
    replace hx1 := (HB.out.cell (World.block_lt_of_cell? w _ hx1)).trans hx1
    have p2 := eq_true HI.out.1
    have p3 := eq_true hlt
    have p4 := eq_true hpl
    clear g0 g1 hy0 hy1 hz0 hz1 hC0 hC1 hmem hlt hpl
    refine start_ (n := 10) (S := fun w' => w'.cell? (ad0.add (x).toNat) = some (.slice B0 y0.1 b0) ∧ w'.cell? (ad1.add (x).toNat) = some (.slice B1 y0.1 b1)) (ds := []) #[fF, fF, fF, fF, fF, fF, fF, fF, fF, fF] kf rfl rfl ⟨((HB.out.cell (World.block_lt_of_cell? w _ hw0)).trans hw0), ((HB.out.cell (World.block_lt_of_cell? w _ hw1)).trans hw1)⟩ (fun hHeld => ?_); refine with_tabW laws_intactTermSS.tab7 laws_intactTermSS.bits7 (fun HT_ HW_ => ?_)
    generalize wr.drew = w10 at HB D0 D1 hx0 hx1 hHeld ⊢
    refine pq (i := 0) (N := some 24) #[tT, fF, fF, fF, fF, fF, fF, fF, fF, fF] rfl rfl HT_.out ?_
    refine pq (i := 1) (N := some 25) #[tT, tT, fF, fF, fF, fF, fF, fF, fF, fF] rfl rfl HT_.out ?_
    refine pq (i := 2) (N := some 26) #[tT, tT, tT, fF, fF, fF, fF, fF, fF, fF] rfl rfl HT_.out ?_
    refine pq (i := 4) (N := some 28) #[tT, tT, tT, fF, tT, fF, fF, fF, fF, fF] rfl rfl HT_.out ?_
    refine pq (i := 5) (N := some 29) #[tT, tT, tT, fF, tT, tT, fF, fF, fF, fF] rfl rfl HT_.out ?_
    refine pq (i := 6) (N := some 30) #[tT, tT, tT, fF, tT, tT, tT, fF, fF, fF] rfl rfl HT_.out ?_
    refine tq2 (i := 3) (N := some 27) #[tT, tT, tT, tT, tT, tT, tT, fF, fF, fF] rfl rfl HT_.out HW_.out hHeld ?_
    refine tq2 (i := 7) (N := some 31) #[tT, tT, tT, tT, tT, tT, tT, tT, fF, fF] rfl rfl HT_.out HW_.out hHeld ?_
    refine one_ (i := 8) (N := some 32) #[tT, tT, tT, tT, tT, tT, tT, tT, tT, fF] rfl rfl (one_of HT_.out kf) (by decide) (fun K hK => ?_)
    refine goes_ Try.func34 kf rfl #[.slice B0 y0.1 b0, .slice B1 y0.1 b1] (by rfl) rfl rfl sm ?_
    with_reducible refine (laws_intactTermS.pad (y0.2.length + 1) _ _ _ _ y0.1 y0.2 _ ?side1 ?side2 ?side3 ?side4 HY.out.1 HY.out.2 (eqTermS_self y0.2 (by have := HY.out; have := room_le y0.1; omega))).mono ?_
    (case side1 => exact cb D0)
    (case side2 => exact Z0.out)
    (case side3 => exact cb D1)
    (case side4 => exact Z1.out)
    rintro e w11 ⟨rfl, hb⟩
    refine ⟨_, rfl, ?_⟩
    have n0_ := Aside0.mk (below_step bz hb)
    clear HB
    have HB := n0_
    clear n0_
    (try clear hb)
    (try clear hb2)
    (try clear hk)
    (try clear hi)
    refine hK.out _ _ ⟨((HB.out.cell (World.block_lt_of_cell? w _ hw0)).trans hw0), ((HB.out.cell (World.block_lt_of_cell? w _ hw1)).trans hw1)⟩ (fun hHeld => ?_)
    clear hK K
    refine norm_ (a' := ?_) ?_ ?_
    rotate_left
    ·show Act.put _ (some 32) _ = _
     simp only [Act.put, List.setIfInBounds_toArray, List.set_cons_zero, List.set_cons_succ, i64_w, i32_w]
     rfl
    refine pq (i := 9) (N := some 33) #[tT, tT, tT, tT, tT, tT, tT, tT, tT, tT] rfl rfl HT_.out ?_
    refine done_ (done_of HT_.out kf) ?_
    try go_wp2
    go_roundg k1
    case measure => omega
    case rel => exact ⟨x + 1, by have := HI.out; have := HN.out; rw [show wrap64 (x + 1) = x + 1 by unfold wrap64; omega], ⟨by have := HI.out; have := of_eq_true p3; omega⟩, ⟨bz⟩⟩
   ·have cc1 : decide (x < (n : Int)) = false := decide_eq_false hlt
    have hq : (n : Int) ≤ (p.length : Int) := by have := HP.out; omega
    have q1 := eq_true hq
    have q2 := eq_true (show (0 : Int) ≤ (n : Int) by omega)
    try go_wp2
    have n0_ := Aside0.mk (below_drew1 HB.out)
    clear HB
    have HB := n0_
    clear n0_
    obtain ⟨i0, hi0, _, hsz, _⟩ := info_parts info53
    have hcut0 := cut_mid_room (P := Try.prog) 72 53 .i64 .i64 Try.underlying72 hi0 1 hsz A0 n c0 (n : Int) (p.length : Int) (by omega) hq (by have := HC0.out; omega)
    have hcut1 := cut_mid_room (P := Try.prog) 72 53 .i64 .i64 Try.underlying72 hi0 1 hsz A1 n c1 (n : Int) (p.length : Int) (by omega) hq (by have := HC1.out; omega)
    have hd0 := kPad_C (Kd.C_drop H0.out (show n ≤ p.length by omega) HC0.out)
    have hd1 := kPad_C (Kd.C_drop H1.out (show n ≤ p.length by omega) HC1.out)
    obtain ⟨B0, hB0⟩ : ∃ A, A = (if c0 = (n : Int).toNat then A0 else A0.map (·.add ((n : Int).toNat * 1))) := ⟨_, rfl⟩
    obtain ⟨B1, hB1⟩ : ∃ A, A = (if c1 = (n : Int).toNat then A1 else A1.map (·.add ((n : Int).toNat * 1))) := ⟨_, rfl⟩
    rw [← hB0] at hcut0
    rw [← hB1] at hcut1
    obtain ⟨y, hy⟩ : ∃ y, y = (p.drop n).map told := ⟨_, rfl⟩
    have hyl : y.length = (p.length : Int).toNat - (n : Int).toNat := by rw [hy]; simp
    have he := HE.out
    have hyd : (p.drop n).length = y.length := by rw [hy]; simp
    rw [← hy] at hd0 hd1 he
    rw [hyd] at hd0 hd1
    rw [← hyl] at hcut0 hcut1
    have D0 : Aside0 (Kd.C (Kd.slice 107 k107) w B0 y.length y) := ⟨by rw [hB0]; exact hd0⟩
    have D1 : Aside0 (Kd.C (Kd.slice 107 k107) w B1 y.length y) := ⟨by rw [hB1]; exact hd1⟩
    have Z0 : Aside0 (y.length ≤ c0 - (n : Int).toNat) := ⟨by have := HC0.out; rw [hyl]; omega⟩
    have Z1 : Aside0 (y.length ≤ c1 - (n : Int).toNat) := ⟨by have := HC1.out; rw [hyl]; omega⟩
    have E1 := Aside0.mk he
    obtain ⟨d0, hd0_⟩ : ∃ d, d = c0 - (n : Int).toNat := ⟨_, rfl⟩
    obtain ⟨d1, hd1_⟩ : ∃ d, d = c1 - (n : Int).toNat := ⟨_, rfl⟩
    rw [← hd0_] at hcut0 Z0
    rw [← hd1_] at hcut1 Z1
    clear hd0 hd1 he hy hyl hyd hB0 hB1 hi0 hsz hlt HE H0 H1 hd0_ hd1_
    refine start_ (n := 12) (S := fun w' => True) (ds := []) #[fF, fF, fF, fF, fF, fF, fF, fF, fF, fF, fF, fF] kf rfl rfl trivial (fun hHeld => ?_); refine with_tabW laws_intactTermSS.tab9 laws_intactTermSS.bits9 (fun HT_ HW_ => ?_)
    generalize wr.drew = w21 at HB D0 D1 hHeld ⊢
    refine pq (i := 0) (N := some 34) #[tT, fF, fF, fF, fF, fF, fF, fF, fF, fF, fF, fF] rfl rfl HT_.out ?_
    refine pq (i := 1) (N := some 35) #[tT, tT, fF, fF, fF, fF, fF, fF, fF, fF, fF, fF] rfl rfl HT_.out ?_
    refine pq (i := 2) (N := some 36) #[tT, tT, tT, fF, fF, fF, fF, fF, fF, fF, fF, fF] rfl rfl HT_.out ?_
    refine pq (i := 3) (N := some 37) #[tT, tT, tT, tT, fF, fF, fF, fF, fF, fF, fF, fF] rfl rfl HT_.out ?_
    refine pq (i := 4) (N := some 38) #[tT, tT, tT, tT, tT, fF, fF, fF, fF, fF, fF, fF] rfl rfl HT_.out ?_
    refine pq (i := 5) (N := some 39) #[tT, tT, tT, tT, tT, tT, fF, fF, fF, fF, fF, fF] rfl rfl HT_.out ?_
    refine pq (i := 6) (N := some 40) #[tT, tT, tT, tT, tT, tT, tT, fF, fF, fF, fF, fF] rfl rfl HT_.out ?_
    refine pq (i := 7) (N := some 41) #[tT, tT, tT, tT, tT, tT, tT, tT, fF, fF, fF, fF] rfl rfl HT_.out ?_
    refine pq (i := 8) (N := some 42) #[tT, tT, tT, tT, tT, tT, tT, tT, tT, fF, fF, fF] rfl rfl HT_.out ?_
    refine pq (i := 9) (N := some 43) #[tT, tT, tT, tT, tT, tT, tT, tT, tT, tT, fF, fF] rfl rfl HT_.out ?_
    refine one_ (i := 10) (N := some 44) #[tT, tT, tT, tT, tT, tT, tT, tT, tT, tT, tT, fF] rfl rfl (one_of HT_.out kf) (by decide) (fun K hK => ?_)
    refine goes_ Try.func101 kf rfl #[.slice B0 y.length d0, .slice B1 y.length d1] (by rfl) rfl rfl sm ?_
    with_reducible refine (laws_eqTermSS.calls ke _ _ y _ _ y true _ ?side1 ?side2 ?side3 ?side4 E1.out).mono ?_
    (case side1 => exact cb D0)
    (case side2 => exact Z0.out)
    (case side3 => exact cb D1)
    (case side4 => exact Z1.out)
    rintro e w24 ⟨rfl, hb⟩
    refine ⟨_, rfl, ?_⟩
    have n0_ := Aside0.mk (below_step bz hb)
    clear HB
    have HB := n0_
    clear n0_
    (try clear hb)
    (try clear hb2)
    (try clear hk)
    (try clear hi)
    refine hK.out _ _ trivial (fun hHeld => ?_)
    clear hK K
    refine norm_ (a' := ?_) ?_ ?_
    rotate_left
    ·show Act.put _ (some 44) _ = _
     simp only [Act.put, List.setIfInBounds_toArray, List.set_cons_zero, List.set_cons_succ, i64_w, i32_w]
     rfl
    refine pq (i := 11) (N := some 4) #[tT, tT, tT, tT, tT, tT, tT, tT, tT, tT, tT, tT] rfl rfl HT_.out ?_
    refine done_ (done_of HT_.out kf) ?_
    try go_wp2
    go_ret
    exact ⟨by first | rfl | (simp; done), bz⟩
def marks (a : Int) (n : Nat) : List Int := (List.range n).map fun i : Nat => a + (i : Int)
theorem marks_length (a : Int) (n : Nat) : (marks a n).length = n := by simp [marks]
theorem marks_take (a : Int) (l : List Int) (i : Nat) (h : i < l.length) : (marks a i ++ l.drop i).set i (a + (i : Int)) = marks a (i + 1) ++ l.drop (i + 1) := by
 have h1 : l.drop i = l[i] :: l.drop (i + 1) := (List.drop_eq_getElem_cons h)
 rw [h1, List.set_append_right _ _ (by simp [marks])]
 have h2 : i - (marks a i).length = 0 := by simp [marks]
 rw [h2, List.set_cons_zero]
 have h3 : marks a (i + 1) = marks a i ++ [a + (i : Int)] := by simp [marks, List.range_succ]
 rw [h3, List.append_assoc]
 rfl
theorem markIntS_l0 (l : List Int) (a : Int) (ha : 0 ≤ a) (hn : l.length ≤ 1000000) (hb : a ≤ 1000000000000) (d : Nat) : ∀ (k i : Nat), i ≤ l.length → l.length - i = d → d < k → laws_markIntS.l0 k (marks a i ++ l.drop i) (a + (i : Int)) (i : Int) = some (a + (l.length : Int), marks a l.length) := by
 induction d with
 | zero =>
  intro k i h1 hd hk
  obtain ⟨k, rfl⟩ : ∃ m, k = m + 1 := ⟨k - 1, by omega⟩
  have e : i = l.length := by omega
  subst e
  simp only [laws_markIntS.l0]; rw [if_neg (by simp [marks])]
  simp
 | succ d ih =>
  intro k i h1 hd hk
  obtain ⟨k, rfl⟩ : ∃ m, k = m + 1 := ⟨k - 1, by omega⟩
  have hlen : ((marks a i ++ l.drop i).length : Int) = l.length := by simp [marks]; omega
  simp only [laws_markIntS.l0]; rw [if_pos (by omega), if_pos (by omega), show wrap64 ((i : Int) + 1) = ((i + 1 : Nat) : Int) by unfold wrap64; omega, Int.toNat_natCast, marks_take a l i (by omega), show wrap64 (a + (i : Int) + 1) = a + ((i + 1 : Nat) : Int) by unfold wrap64; omega]
  exact ih k (i + 1) (by omega) (by omega) (by omega)
theorem markIntS_eq (l : List Int) (a : Int) (ha : 0 ≤ a) (hn : l.length ≤ 1000000) (hb : a ≤ 1000000000000) : ∃ k, laws_markIntS.f k l a = some (a + (l.length : Int), marks a l.length) := by
 refine ⟨l.length + 1, ?_⟩
 unfold laws_markIntS.f
 have h := markIntS_l0 l a ha hn hb l.length (l.length + 1) 0 (by omega) (by omega) (by omega)
 simpa [marks] using h
theorem heldIntS_l0 (n : Nat) (a : Int) (ha : 0 ≤ a) (hn : n ≤ 1000000) (hb : a ≤ 1000000000000) (d : Nat) : ∀ (k i : Nat), i ≤ n → n - i = d → d < k → laws_heldIntS.l0 k (marks a n) (a + (i : Int)) (i : Int) = some (a + (n : Int)) := by
 induction d with
 | zero =>
  intro k i h1 hd hk
  obtain ⟨k, rfl⟩ : ∃ m, k = m + 1 := ⟨k - 1, by omega⟩
  have e : i = n := by omega
  subst e
  simp only [laws_heldIntS.l0]; rw [if_neg (by simp [marks])]
 | succ d ih =>
  intro k i h1 hd hk
  obtain ⟨k, rfl⟩ : ∃ m, k = m + 1 := ⟨k - 1, by omega⟩
  have hlen : ((marks a n).length : Int) = n := by simp [marks]
  have hrd : rd (marks a n) (i : Int) = a + (i : Int) := by
   have : i < n := by omega
   simp [rd, marks, this]
  simp only [laws_heldIntS.l0]; rw [if_pos (by omega), if_pos (by omega), if_pos hrd, show wrap64 ((i : Int) + 1) = ((i + 1 : Nat) : Int) by unfold wrap64; omega, show wrap64 (a + (i : Int) + 1) = a + ((i + 1 : Nat) : Int) by unfold wrap64; omega]
  exact ih k (i + 1) (by omega) (by omega) (by omega)
theorem heldIntS_eq (n : Nat) (a : Int) (ha : 0 ≤ a) (hn : n ≤ 1000000) (hb : a ≤ 1000000000000) : ∃ k, laws_heldIntS.f k (marks a n) a = some (a + (n : Int)) := by
 refine ⟨n + 1, ?_⟩
 unfold laws_heldIntS.f
 have h := heldIntS_l0 n a ha hn hb n (n + 1) 0 (by omega) (by omega) (by omega)
 simpa using h
theorem held_calls (k : Nat) (A0 : Option Addr) (c0 n : Nat) (a q : Int) (w : World) (hr : Kd.C (Kd.int .i64) w A0 (marks a n).length (marks a n)) (hc : n ≤ c0) (h : laws_heldIntS.f k (marks a n) a = some q) :
 Calls Try.prog 53 #[.slice A0 n c0, .int .i64 a] w fun e w' => e = .returned (.int .i64 q) ∧ Drawn0 w w' := by
 have h2 := laws_heldIntS.calls k A0 c0 (marks a n) a q w hr (by rw [marks_length]; exact hc) h
 rw [marks_length] at h2
 exact h2
def marksT (a : Int) (n : Nat) : List S107 := (List.range n).map fun i : Nat => (⟨a + 4 * (i : Int), a + 4 * (i : Int) + 1, a + 4 * (i : Int) + 2, a + 4 * (i : Int) + 3⟩ : S107)
theorem marksT_take (a : Int) (l : List S107) (i : Nat) (h : i < l.length) : (marksT a i ++ l.drop i).set i (⟨a + 4 * (i : Int), a + 4 * (i : Int) + 1, a + 4 * (i : Int) + 2, a + 4 * (i : Int) + 3⟩ : S107) = marksT a (i + 1) ++ l.drop (i + 1) := by
 have h1 : l.drop i = l[i] :: l.drop (i + 1) := (List.drop_eq_getElem_cons h)
 rw [h1, List.set_append_right _ _ (by simp [marksT])]
 have h2 : i - (marksT a i).length = 0 := by simp [marksT]
 rw [h2, List.set_cons_zero]
 have h3 : marksT a (i + 1) = marksT a i ++ [(⟨a + 4 * (i : Int), a + 4 * (i : Int) + 1, a + 4 * (i : Int) + 2, a + 4 * (i : Int) + 3⟩ : S107)] := by simp [marksT, List.range_succ]
 rw [h3, List.append_assoc]
 rfl
theorem rdT_set (xs : List S107) (i : Nat) (v : S107) (h : i < xs.length) : rd_T107 (xs.set i v) (i : Int) = v := by simp [rd_T107, h]
theorem markT_step (k : Nat) (xs : List S107) (i : Nat) (a : Int) (h : i < xs.length) (hn : xs.length ≤ 1000000) (ha : 0 ≤ a) (hb : a ≤ 2000000000000) :
 laws_markTermS.l0 (k + 1) xs a (i : Int) = laws_markTermS.l0 k (xs.set i (⟨a, a + 1, a + 2, a + 3⟩ : S107)) (a + 4) ((i + 1 : Nat) : Int) := by
 have c1 : (i : Int) < (xs.length : Int) := by omega
 have c2 : (0 : Int) ≤ (i : Int) := by omega
 have e1 : wrap64 (a + 1) = a + 1 := by unfold wrap64; omega
 have e2 : wrap64 (a + 1 + 1) = a + 2 := by unfold wrap64; omega
 have e3 : wrap64 (a + 2 + 1) = a + 3 := by unfold wrap64; omega
 have e4 : wrap64 (a + 3 + 1) = a + 4 := by unfold wrap64; omega
 have e5 : wrap64 ((i : Int) + 1) = ((i + 1 : Nat) : Int) := by unfold wrap64; omega
 conv => lhs; simp only [laws_markTermS.l0]
 rw [if_pos c1, if_pos c2, e1, e2, e3, e4, e5]
 simp only [Option.bind_some, Int.toNat_natCast, rdT_set xs i _ h, List.set_set]
theorem markTermS_l0 (l : List S107) (a : Int) (ha : 0 ≤ a) (hn : l.length ≤ 1000000) (hb : a ≤ 1000000000000) (d : Nat) : ∀ (k i : Nat), i ≤ l.length → l.length - i = d → d < k → laws_markTermS.l0 k (marksT a i ++ l.drop i) (a + 4 * (i : Int)) (i : Int) = some (a + 4 * (l.length : Int), marksT a l.length) := by
 induction d with
 | zero =>
  intro k i h1 hd hk
  obtain ⟨k, rfl⟩ : ∃ m, k = m + 1 := ⟨k - 1, by omega⟩
  have e : i = l.length := by omega
  subst e
  simp only [laws_markTermS.l0]; rw [if_neg (by simp [marksT])]
  simp
 | succ d ih =>
  intro k i h1 hd hk
  obtain ⟨k, rfl⟩ : ∃ m, k = m + 1 := ⟨k - 1, by omega⟩
  have hlen : (marksT a i ++ l.drop i).length = l.length := by simp [marksT]; omega
  rw [markT_step k _ i _ (by omega) (by omega) (by omega) (by omega), marksT_take a l i (by omega), show a + 4 * (i : Int) + 4 = a + 4 * ((i + 1 : Nat) : Int) by omega]
  exact ih k (i + 1) (by omega) (by omega) (by omega)
theorem markTermS_eq (l : List S107) (a : Int) (ha : 0 ≤ a) (hn : l.length ≤ 1000000) (hb : a ≤ 1000000000000) : ∃ k, laws_markTermS.f k l a = some (a + 4 * (l.length : Int), marksT a l.length) := by
 refine ⟨l.length + 1, ?_⟩
 unfold laws_markTermS.f
 have h := markTermS_l0 l a ha hn hb l.length (l.length + 1) 0 (by omega) (by omega) (by omega)
 simpa [marksT] using h
def marksD (a : Int) (n : Nat) : List S44 := (List.range n).map fun i : Nat => (⟨a + 2 * (i : Int), a + 2 * (i : Int) + 1⟩ : S44)
theorem marksD_take (a : Int) (l : List S44) (i : Nat) (h : i < l.length) : (marksD a i ++ l.drop i).set i (⟨a + 2 * (i : Int), a + 2 * (i : Int) + 1⟩ : S44) = marksD a (i + 1) ++ l.drop (i + 1) := by
 have h1 : l.drop i = l[i] :: l.drop (i + 1) := (List.drop_eq_getElem_cons h)
 rw [h1, List.set_append_right _ _ (by simp [marksD])]
 have h2 : i - (marksD a i).length = 0 := by simp [marksD]
 rw [h2, List.set_cons_zero]
 have h3 : marksD a (i + 1) = marksD a i ++ [(⟨a + 2 * (i : Int), a + 2 * (i : Int) + 1⟩ : S44)] := by simp [marksD, List.range_succ]
 rw [h3, List.append_assoc]
 rfl
theorem rdD_set (xs : List S44) (i : Nat) (v : S44) (h : i < xs.length) : rd_T44 (xs.set i v) (i : Int) = v := by simp [rd_T44, h]
theorem markD_step (k : Nat) (xs : List S44) (i : Nat) (a : Int) (h : i < xs.length) (hn : xs.length ≤ 1000000) (ha : 0 ≤ a) (hb : a ≤ 2000000000000) :
 laws_markDyadicS.l0 (k + 1) xs a (i : Int) = laws_markDyadicS.l0 k (xs.set i (⟨a, a + 1⟩ : S44)) (a + 2) ((i + 1 : Nat) : Int) := by
 have c1 : (i : Int) < (xs.length : Int) := by omega
 have c2 : (0 : Int) ≤ (i : Int) := by omega
 have e1 : wrap64 (a + 1) = a + 1 := by unfold wrap64; omega
 have e2 : wrap64 (a + 1 + 1) = a + 2 := by unfold wrap64; omega
 have e5 : wrap64 ((i : Int) + 1) = ((i + 1 : Nat) : Int) := by unfold wrap64; omega
 conv => lhs; simp only [laws_markDyadicS.l0]
 rw [if_pos c1, if_pos c2, e1, e2, e5]
 simp only [Option.bind_some, Int.toNat_natCast, rdD_set xs i _ h, List.set_set]
theorem markDyadicS_l0 (l : List S44) (a : Int) (ha : 0 ≤ a) (hn : l.length ≤ 1000000) (hb : a ≤ 1000000000000) (d : Nat) : ∀ (k i : Nat), i ≤ l.length → l.length - i = d → d < k → laws_markDyadicS.l0 k (marksD a i ++ l.drop i) (a + 2 * (i : Int)) (i : Int) = some (a + 2 * (l.length : Int), marksD a l.length) := by
 induction d with
 | zero =>
  intro k i h1 hd hk
  obtain ⟨k, rfl⟩ : ∃ m, k = m + 1 := ⟨k - 1, by omega⟩
  have e : i = l.length := by omega
  subst e
  simp only [laws_markDyadicS.l0]; rw [if_neg (by simp [marksD])]
  simp
 | succ d ih =>
  intro k i h1 hd hk
  obtain ⟨k, rfl⟩ : ∃ m, k = m + 1 := ⟨k - 1, by omega⟩
  have hlen : (marksD a i ++ l.drop i).length = l.length := by simp [marksD]; omega
  rw [markD_step k _ i _ (by omega) (by omega) (by omega) (by omega), marksD_take a l i (by omega), show a + 2 * (i : Int) + 2 = a + 2 * ((i + 1 : Nat) : Int) by omega]
  exact ih k (i + 1) (by omega) (by omega) (by omega)
theorem markDyadicS_eq (l : List S44) (a : Int) (ha : 0 ≤ a) (hn : l.length ≤ 1000000) (hb : a ≤ 1000000000000) : ∃ k, laws_markDyadicS.f k l a = some (a + 2 * (l.length : Int), marksD a l.length) := by
 refine ⟨l.length + 1, ?_⟩
 unfold laws_markDyadicS.f
 have h := markDyadicS_l0 l a ha hn hb l.length (l.length + 1) 0 (by omega) (by omega) (by omega)
 simpa [marksD] using h
def markSST (a : Int) : List (List S107) → List (List S107)
 | [] => []
 | q :: t => marksT a q.length :: markSST (a + 4 * (q.length : Int)) t
theorem markSST_length (l : List (List S107)) : ∀ a, (markSST a l).length = l.length := by
 induction l with
 | nil => intro a; rfl
 | cons q t ih => intro a; simp [markSST, ih]
theorem markSST_append (s t : List (List S107)) : ∀ a, markSST a (s ++ t) = markSST a s ++ markSST (a + 4 * (total s : Int)) t := by
 induction s with
 | nil => intro a; simp [markSST, total]
 | cons q s ih =>
  intro a
  rw [List.cons_append, markSST, markSST, ih, List.cons_append]
  have e : a + 4 * (q.length : Int) + 4 * (total s : Int) = a + 4 * (total (q :: s) : Int) := by simp [total]; omega
  rw [e]
def markPartT (a : Int) (l : List (List S107)) (i : Nat) : List (List S107) := markSST a (l.take i) ++ l.drop i
theorem markPartT_length (a : Int) (l : List (List S107)) (i : Nat) (h : i ≤ l.length) : (markPartT a l i).length = l.length := by simp [markPartT, markSST_length]; omega
theorem markPartT_get (a : Int) (l : List (List S107)) (i : Nat) (h : i < l.length) : (markPartT a l i).getD i [] = l[i] := by
 have h1 : (markSST a (l.take i)).length = i := by rw [markSST_length, List.length_take]; omega
 simp only [markPartT, List.getD_eq_getElem?_getD]
 rw [List.getElem?_append_right (by omega), h1, Nat.sub_self, List.getElem?_drop]
 simp [h]
theorem markPartT_set (a : Int) (l : List (List S107)) (i : Nat) (h : i < l.length) : (markPartT a l i).set i (marksT (a + 4 * (total (l.take i) : Int)) l[i].length) = markPartT a l (i + 1) := by
 have h1 : (markSST a (l.take i)).length = i := by rw [markSST_length, List.length_take]; omega
 unfold markPartT
 rw [List.set_append_right _ _ (by omega), h1, Nat.sub_self, List.drop_eq_getElem_cons h, List.set_cons_zero, List.take_succ_eq_append_getElem h, markSST_append]
 simp [markSST]
theorem markPartT_end (a : Int) (l : List (List S107)) : markPartT a l l.length = markSST a l := by simp [markPartT]
set_option maxHeartbeats 8000000 in
set_option maxRecDepth 100000 in
theorem markTermSS_calls (P0_ : Nat → Prop) (u : Value) (l : List (List S107)) (a : Int) (w0 w : World) (hB : Below w0.heap.size w0 w) (ho0 : Kd.S (Kd.slice 107 k107) 53 w w0.heap.size P0_ u l) (ha : 0 ≤ a) (hb : a ≤ 1000000000) (hn : l.length + total l ≤ 1000000) :
 Calls Try.prog 50 #[u, .int .i64 a] w fun e w' => e = .returned (.int .i64 (a + 4 * (total l : Int))) ∧ Kd.S (Kd.slice 107 k107) 53 w' w0.heap.size (fun k_ => (P0_ k_ ∨ w.heap.size ≤ k_)) u (markSST a l) ∧ Below w0.heap.size w0 w' ∧ Kept w w' (fun k_ => P0_ k_) := by
 have HO := Aside0.mk (show Kd.S (Kd.slice 107 k107) 53 w w0.heap.size (fun k_ => (P0_ k_ ∨ w.heap.size ≤ k_)) u (markPartT a l 0) from by simpa [markPartT, markSST] using Kd.S_mono ho0 (fun k_ hk => (.inl hk)))
 have HK := Aside0.mk (Kept.refl w (fun k_ => P0_ k_))
 have HB := Aside0.mk hB
 have HN := Aside0.mk hn
 have HA := Aside0.mk (And.intro ha hb)
 obtain ⟨Au, cu, eu⟩ := Kd.S_slice ho0
 subst eu
 clear hB ho0 hn ha hb
 go_enter Try.func50, Try.ntmps50
 go_wp2
 go_loopg [1, 5] (l.length + 1) (fun kq v1 v5 w' => ∃ (i : Nat), v1 = .int .i64 (a + 4 * (total (l.take i) : Int)) ∧ v5 = .int .i64 (i : Int) ∧ Aside0 (i + kq = l.length + 1 ∧ i ≤ l.length) ∧ Aside0 (Kd.S (Kd.slice 107 k107) 53 w' w0.heap.size (fun k_ => (P0_ k_ ∨ w.heap.size ≤ k_)) (.slice Au l.length cu) (markPartT a l i)) ∧ Aside0 (Kept w w' (fun k_ => P0_ k_)) ∧ Aside0 (Below w0.heap.size w0 w'))
 case atStart => exact ⟨0, by simp [total], rfl, ⟨by omega⟩, HO, HK, HB⟩
 case round =>
  clear HO HK HB
  obtain ⟨i, rfl, rfl, HI, HO, HK, HB⟩ := hrel
  cases gk with
  | zero => exact absurd HI.out (by omega)
  | succ k1 =>
   by_cases hlt : i < l.length
   ·have cc1 : decide ((i : Int) < (l.length : Int)) = true := decide_eq_true (by omega)
    have p2 := eq_true (show (0 : Int) ≤ (i : Int) by omega)
    have p3 := eq_true (show (i : Int) < (l.length : Int) by omega)
    obtain ⟨q, hq⟩ : ∃ q, l[i] = q := ⟨_, rfl⟩
    have htt := total_take l i hlt
    have htl := total_take_le l (i + 1)
    have hset := markPartT_set a l i hlt
    have hget := markPartT_get a l i hlt
    rw [hq] at htt hset hget
    have hnn := HN.out
    have haa := HA.out
    obtain ⟨s, hs⟩ : ∃ s : Int, a + 4 * (total (l.take i) : Int) = s := ⟨_, rfl⟩
    rw [hs] at hset ⊢
    have hs2 : a + 4 * (total (l.take (i + 1)) : Int) = s + 4 * (q.length : Int) := by omega
    obtain ⟨km, hkm⟩ := markTermS_eq q s (by omega) (by omega) (by omega)
    have HM := Aside0.mk hkm
    obtain ⟨go, co, eo, gb, _, _, _⟩ := Kd.S_form HO.out (by rw [markPartT_length a l i (by omega)]; omega)
    rw [markPartT_length a l i (by omega)] at eo
    injection eo with ea_ _ ec_
    subst ea_
    subst ec_
    obtain ⟨oki, c, hcl, hM, hcc, hoki, hH⟩ := Kd.S_lend HO.out [] (i : Int) (by omega) (by omega)
    rw [Int.toNat_natCast, hget] at hM
    rw [Int.toNat_natCast] at hcc
    obtain ⟨v, rfl, hv⟩ := hM
    have hx := hcc 0 _ rfl
    have hx1 : wr.cell? ⟨go, i, none⟩ = some v := by have h_ : (Kd.slice 107 k107).sz = 1 := rfl; rw [h_, Nat.mul_one, Nat.add_zero] at hx; exact hx
    obtain ⟨Av, cv, ev⟩ := Kd.R_slice hv
    subst ev
    have HV := Aside0.mk hv
    have HH := Aside0.mk (Kd.H_widen hH)
    have HS := Aside0.mk hset
    have HT := Aside0.mk hs2
    clear hcl hcc hH hx hv hget htt htl hset hs2 hkm hq hnn haa HO hs
    go_wp2_with (first | ((with_reducible refine gate_callee (f := 102) rfl ?_); refine goesL_ (some 17) rfl rfl Try.func102 kf rfl #[.slice Av q.length cv, .int .i64 s] rfl (by (try simp only [List.map_toArray, List.map_cons, List.map_nil]); first | done | rfl) ?_; (with_reducible refine (laws_markTermS.calls km oki _ q s (s + 4 * (q.length : Int)) (marksT s q.length) w0 _ ?side1 ?side2 HM.out).mono ?_); (case side1 => exact HB.out); (case side2 => exact HV.out); rintro e w2 ⟨rfl, ho, hb, hk⟩; refine ⟨_, rfl, ?_⟩; have hsz_ := HK.out.1; have n0_ := Aside0.mk (Kd.H_back (Kd.H_kept HH.out hk (fun k_ _ h2_ h3_ => h2_ (.inl h3_))) (Kd.M_row ho) (fun k_ h_ => h_.elim .inl (fun h2_ => .inr ⟨.inr (Nat.le_trans hsz_ h2_), h2_⟩))); have n1_ := Aside0.mk (HK.out.then_ hk (fun k_ h_ => (hoki k_ h_).1.elim .inl .inr)); clear HK HB HH HV hsz_ hk ho hoki; have HO := n0_; have HK := n1_; have HB := Aside0.mk hb; clear n0_ n1_ hb))
    go_roundg k1
    case measure => omega
    case rel => exact ⟨i + 1, by rw [HT.out], by rw [show wrap64 ((i : Int) + 1) = ((i + 1 : Nat) : Int) by have := HN.out; unfold wrap64; omega], ⟨by have := HI.out; omega⟩, ⟨by rw [← HS.out]; have h_ := HO.out; rwa [Int.toNat_natCast] at h_⟩, HK, HB⟩
   ·have cc1 : decide ((i : Int) < (l.length : Int)) = false := decide_eq_false (by omega)
    obtain rfl : i = l.length := by have := HI.out; omega
    have HO' := HO.out
    rw [markPartT_end] at HO'
    have HO2 := Aside0.mk HO'
    clear HO HO'
    go_wp2
    go_ret
    exact ⟨by first | rfl | (simp; done) | (rw [List.take_length]; rfl), HO2.out, HB.out, HK.out⟩
set_option maxHeartbeats 8000000 in
set_option maxRecDepth 100000 in
theorem law_walk (A0 : Option Addr) (c0 : Nat) (l0 : List (List S109)) (A1 : Option Addr) (c1 : Nat) (l1 : List S82) (q1 P1 : List S44) (kw1 kb1 ke1 : Nat) (q0 : List (List S107)) (P0 : List (Nat × List S107)) (kw0 kb0 ke0 : Nat)  (w : World) (hr0 : Kd.C (Kd.slice 109 k109) w A0 l0.length l0) (hc0 : l0.length ≤ c0) (hr1 : Kd.C k82 w A1 l1.length l1) (hc1 : l1.length ≤ c1) (hw1 : laws_toDyadicSW.f kw1 l1 false = some P1) (hba1 : laws_toDyadicS.f kb1 l1 true = some q1) (hql1 : q1.length = l1.length) (hp1 : ∃ f, P1 = q1 ++ f) (hpl1 : P1.length = q1.length + room q1.length) (he1 : laws_eqDyadicS.f ke1 P1 P1 = some true) (hw0 : laws_toTermSSW.f kw0 l0 false = some P0) (hba0 : laws_toTermSS.f kb0 l0 true = some q0) (hql0 : q0.length = l0.length) (hp0 : ∃ f, P0.map told = q0 ++ f) (hpl0 : P0.length = q0.length + room q0.length) (hin0 : ∀ x ∈ P0.take q0.length, x.2.length = x.1 + room x.1 ∧ x.1 ≤ 1000000) (he0 : laws_eqTermSS.f ke0 ((P0.drop q0.length).map told) ((P0.drop q0.length).map told) = some true) (hqt0 : total q0 = total l0)  (hn : l0.length + total l0 + l1.length ≤ 1000000) (ks ki : Nat) (r1 : List Int) (r2 : Bool) (hs : spec_SignsAt.f ks q0 q1 = some (r1, r2)) (hi : impl_SignsAt.f ki q0 q1 = some (r1, r2)) (hg : r1.length ≤ 1000000) :
 Calls Try.prog 10 #[.slice A0 l0.length c0, .slice A1 l1.length c1] w fun e w' => e = .returned (.bool true) ∧ Below w.heap.size w w' := by
 have HR0 := Aside0.mk hr0
 have HC0 := Aside0.mk hc0
 have hm0 := hr0.2.1
 have hml0 := C_lens hr0
 have HR1 := Aside0.mk hr1
 have HC1 := Aside0.mk hc1
 have hm1 := hr1.2.1
 have HW1 := Aside0.mk hw1
 have HBA1 := Aside0.mk hba1
 have HQL1 := Aside0.mk hql1
 have HP1 := Aside0.mk hp1
 have HPL1 := Aside0.mk hpl1
 have HQN1 : Aside0 (q1.length ≤ 1000000) := ⟨by omega⟩
 have HE1 := Aside0.mk he1
 have HW0 := Aside0.mk hw0
 have HQL0 := Aside0.mk hql0
 have HBA0 := Aside0.mk hba0
 have HP0 := Aside0.mk hp0
 have HPL0 := Aside0.mk hpl0
 have HIN0 := Aside0.mk hin0
 have HQN0 : Aside0 (q0.length ≤ 1000000) := ⟨by omega⟩
 have HE0 := Aside0.mk he0
 obtain ⟨s0, hs0⟩ : ∃ s : Int, s = (1000000 : Int) - (l0.length : Int) - (total l0 : Int) := ⟨_, rfl⟩
 obtain ⟨kz0, hzs0⟩ := szTermSS_eq l0 hm0 hml0 (1000000) (by omega) (by omega)
 rw [if_pos (by omega)] at hzs0
 replace hzs0 : laws_szTermSS.f kz0 l0 1000000 = some s0 := hzs0.trans (congrArg some (by omega))
 have HSZ0 := Aside0.mk hzs0
 have cs0 : decide (s0 < 0) = false := decide_eq_false (by omega)
 obtain ⟨s1, hs1⟩ : ∃ s : Int, s = (s0 : Int) - (l1.length : Int) := ⟨_, rfl⟩
 have hzs1 : laws_szDyadicS.f l1 s0 = some s1 := by unfold laws_szDyadicS.f; rw [if_neg (by unfold wrap64; omega)]; congr 1; unfold wrap64; omega
 have HSZ1 := Aside0.mk hzs1
 have cs1 : decide (s1 < 0) = false := decide_eq_false (by omega)
 have HS := Aside0.mk hs
 have HI := Aside0.mk hi
 obtain ⟨m0, hmm0⟩ : ∃ m : Int, 101 + 4 * (total q0 : Int) = m := ⟨_, rfl⟩
 have HMV0 := Aside0.mk hmm0
 have HMA0 : Aside0 (0 ≤ (101 : Int) ∧ (101 : Int) ≤ 1000000000 ∧ q0.length + total q0 ≤ 1000000) := ⟨by omega⟩
 have cm0 : decide (m0 < 0) = false := decide_eq_false (by omega)
 obtain ⟨km1, hmk1⟩ := markDyadicS_eq q1 (m0) (by omega) (by omega) (by omega)
 obtain ⟨m1, hmm1⟩ : ∃ m : Int, m = m0 + 2 * (q1.length : Int) := ⟨_, rfl⟩
 rw [← hmm1] at hmk1
 have HM1 := Aside0.mk hmk1
 have cm1 : decide (m1 < 0) = false := decide_eq_false (by omega)
 have HE := Aside0.mk (eqIntS_self r1 (by omega))
 obtain ⟨kg, hgm⟩ := markIntS_eq r1 101 (by omega) hg (by omega)
 obtain ⟨kh, hh⟩ := heldIntS_eq r1.length 101 (by omega) hg (by omega)
 obtain ⟨mg, hmg⟩ : ∃ m : Int, m = 101 + (r1.length : Int) := ⟨_, rfl⟩
 rw [← hmg] at hgm hh
 have HG := Aside0.mk hgm
 have HH := Aside0.mk hh
 have cmg : decide (mg < 0) = false := decide_eq_false (by omega)
 have HB := Aside0.mk (Below.refl w.heap.size w)
 have Z := Aside0.mk (Nat.zero_le w.heap.size)
 clear hs hi hr0 hc0 hr1 hc1 hw1 hba1 hql1 hp1 hpl1 he1 hw0 hba0 hp0 hpl0 hin0 he0 hml0 hs0 hzs0 hs1 hzs1 hmm0 hmk1 hmm1 hgm hh hmg hg hql0 hqt0 hn hm0 hm1
 go_enter Try.func10, Try.ntmps10
 go_wp2_with (first
  | ((with_reducible refine gate_callee (f := 44) rfl ?_); refine goesL_ (some 19) rfl rfl Try.func44 kf rfl #[.slice A0 l0.length c0, .int .i64 1000000] rfl sm ?_; (with_reducible refine (laws_szTermSS.calls kz0 _ _ l0 1000000 s0 _ ?side1 ?side2 HSZ0.out).mono ?_); (case side1 => repeat (first | exact HR0.out | exact (Kd.C_below HR0.out bz) | (with_reducible refine Kd.C_alloc ?_ _) | (with_reducible refine Kd.C_drewN ?_ _) | (with_reducible refine Kd.C_drew ?_))); (case side2 => exact HC0.out); rintro e w' ⟨rfl, ⟨nd, rfl⟩⟩; refine ⟨_, rfl, ?_⟩)
  | ((with_reducible refine gate_callee (f := 11) rfl ?_); refine goesL_ (some 24) rfl rfl Try.func11 kf rfl #[.slice A1 l1.length c1, .int .i64 s0] rfl sm ?_; (with_reducible refine (laws_szDyadicS.calls _ _ l1 s0 s1 _ ?side1 ?side2 HSZ1.out).mono ?_); (case side1 => repeat (first | exact HR1.out | exact (Kd.C_below HR1.out bz) | (with_reducible refine Kd.C_alloc ?_ _) | (with_reducible refine Kd.C_drewN ?_ _) | (with_reducible refine Kd.C_drew ?_))); (case side2 => exact HC1.out); rintro e w' ⟨rfl, ⟨nd, rfl⟩⟩; refine ⟨_, rfl, ?_⟩)
  | ((with_reducible refine gate_callee (f := 46) rfl ?_); refine goesL_ (some 29) rfl rfl Try.func46 kf rfl #[.slice A0 l0.length c0, .bool false] rfl sm ?_; (with_reducible refine (toTermSS_pad kw0 _ _ l0 q0 P0 _ ?side1 ?side2 HW0.out HQL0.out).mono ?_); (case side1 => repeat (first | exact HR0.out | exact (Kd.C_below HR0.out bz) | (with_reducible refine Kd.C_alloc ?_ _) | (with_reducible refine Kd.C_drewN ?_ _) | (with_reducible refine Kd.C_drew ?_))); (case side2 => exact HC0.out); rintro e w1_ ⟨A1_, c1_, rfl, ho0, hb⟩; refine ⟨_, rfl, ?_⟩; obtain ⟨a1_0_, b1_0_, z1_, z2_, zo_, z4_⟩ := madeS (by exact Z.out) bz hb ho0; clear HB Z; have O1_0 := Aside0.mk zo_; have Q1_0 := Aside0.mk z1_; have HB := Aside0.mk z4_; have Z := Aside0.mk z2_; clear z1_ z2_ z4_ zo_ hb ho0)
  | ((with_reducible refine gate_callee (f := 13) rfl ?_); refine goesL_ (some 31) rfl rfl Try.func13 kf rfl #[.slice A1 l1.length c1, .bool false] rfl sm ?_; (with_reducible refine (toDyadicS_pad kw1 _ _ l1 q1 P1 _ ?side1 ?side2 HW1.out HQL1.out).mono ?_); (case side1 => repeat (first | exact HR1.out | exact (Kd.C_below HR1.out bz) | (with_reducible refine Kd.C_alloc ?_ _) | (with_reducible refine Kd.C_drewN ?_ _) | (with_reducible refine Kd.C_drew ?_))); (case side2 => exact HC1.out); rintro e w2_ ⟨A2_, c2_, rfl, ho0, hb⟩; refine ⟨_, rfl, ?_⟩; obtain ⟨a2_0_, b2_0_, z1_, z2_, zo0_, z4_⟩ := made (by exact Z.out) bz hb ho0; have nO1_0_ := Aside0.mk (Kd.S_below (kS O1_0) hb); clear O1_0 HB Z; have O1_0 := nO1_0_; clear nO1_0_; have O2_0 := Aside0.mk zo0_; have Q2_0 := Aside0.mk z1_; have HB := Aside0.mk z4_; have Z := Aside0.mk z2_; clear z1_ z2_ z4_ hb ho0 zo0_)
  | ((with_reducible refine gate_callee (f := 45) rfl ?_); refine goesL_ (some 32) rfl rfl Try.func45 kf rfl #[.slice A1_ q0.length c1_, .slice A2_ q1.length c2_] rfl sm ?_; (with_reducible refine (spec_SignsAt.calls ks _ _ q0 _ _ q1 r1 r2 _ ?side1 ?side2 ?side3 ?side4 HS.out).mono ?_); (case side1 => repeat (first | exact padr2 HP0.out O1_0.out | (with_reducible refine Kd.C_alloc ?_ _) | (with_reducible refine Kd.C_drewN ?_ _) | (with_reducible refine Kd.C_drew ?_))); (case side2 => exact padl2 HP0.out (Kd.S_reads' O1_0.out).2.1); (case side3 => repeat (first | exact padr HP1.out O2_0.out | (with_reducible refine Kd.C_alloc ?_ _) | (with_reducible refine Kd.C_drewN ?_ _) | (with_reducible refine Kd.C_drew ?_))); (case side4 => exact padl HP1.out (Kd.R_reads' O2_0.out).2.1); rintro e w3_ ⟨v3_, rfl, ho0, hb⟩; refine ⟨_, rfl, ?_⟩; obtain ⟨a3_, b3_, z1_, z2_, z3_, z4_⟩ := made (by exact Z.out) bz hb ho0; have nO1_0_ := Aside0.mk (Kd.S_below (kS O1_0) hb); have nO2_0_ := Aside0.mk (Kd.R_below (kr O2_0) hb); clear O1_0 O2_0 HB Z; have O1_0 := nO1_0_; have O2_0 := nO2_0_; clear nO1_0_ nO2_0_; have O3 := Aside0.mk z3_; have Q3 := Aside0.mk z1_; have HB := Aside0.mk z4_; have Z := Aside0.mk z2_; clear z1_ z2_ z3_ z4_ hb ho0; obtain ⟨A3_, c3_, e3_⟩ := Kd.R_slice O3.out; subst e3_)
  | ((with_reducible refine gate_callee (f := 46) rfl ?_); refine goesL_ (some 36) rfl rfl Try.func46 kf rfl #[.slice A0 l0.length c0, .bool false] rfl sm ?_; (with_reducible refine (toTermSS_pad kw0 _ _ l0 q0 P0 _ ?side1 ?side2 HW0.out HQL0.out).mono ?_); (case side1 => repeat (first | exact HR0.out | exact (Kd.C_below HR0.out bz) | (with_reducible refine Kd.C_alloc ?_ _) | (with_reducible refine Kd.C_drewN ?_ _) | (with_reducible refine Kd.C_drew ?_))); (case side2 => exact HC0.out); rintro e w4_ ⟨A4_, c4_, rfl, ho0, hb⟩; refine ⟨_, rfl, ?_⟩; obtain ⟨a4_0_, b4_0_, z1_, z2_, zo_, z4_⟩ := madeS (by exact Z.out) bz hb ho0; have nO1_0_ := Aside0.mk (Kd.S_below (kS O1_0) hb); have nO2_0_ := Aside0.mk (Kd.R_below (kr O2_0) hb); have nO3_ := Aside0.mk (Kd.R_below (kr O3) hb); clear O1_0 O2_0 O3 HB Z; have O1_0 := nO1_0_; have O2_0 := nO2_0_; have O3 := nO3_; clear nO1_0_ nO2_0_ nO3_; have O4_0 := Aside0.mk zo_; have Q4_0 := Aside0.mk z1_; have HB := Aside0.mk z4_; have Z := Aside0.mk z2_; clear z1_ z2_ z4_ zo_ hb ho0)
  | ((with_reducible refine gate_callee (f := 13) rfl ?_); refine goesL_ (some 38) rfl rfl Try.func13 kf rfl #[.slice A1 l1.length c1, .bool false] rfl sm ?_; (with_reducible refine (toDyadicS_pad kw1 _ _ l1 q1 P1 _ ?side1 ?side2 HW1.out HQL1.out).mono ?_); (case side1 => repeat (first | exact HR1.out | exact (Kd.C_below HR1.out bz) | (with_reducible refine Kd.C_alloc ?_ _) | (with_reducible refine Kd.C_drewN ?_ _) | (with_reducible refine Kd.C_drew ?_))); (case side2 => exact HC1.out); rintro e w5_ ⟨A5_, c5_, rfl, ho0, hb⟩; refine ⟨_, rfl, ?_⟩; obtain ⟨a5_0_, b5_0_, z1_, z2_, zo0_, z4_⟩ := made (by exact Z.out) bz hb ho0; have nO1_0_ := Aside0.mk (Kd.S_below (kS O1_0) hb); have nO2_0_ := Aside0.mk (Kd.R_below (kr O2_0) hb); have nO3_ := Aside0.mk (Kd.R_below (kr O3) hb); have nO4_0_ := Aside0.mk (Kd.S_below (kS O4_0) hb); clear O1_0 O2_0 O3 O4_0 HB Z; have O1_0 := nO1_0_; have O2_0 := nO2_0_; have O3 := nO3_; have O4_0 := nO4_0_; clear nO1_0_ nO2_0_ nO3_ nO4_0_; have O5_0 := Aside0.mk zo0_; have Q5_0 := Aside0.mk z1_; have HB := Aside0.mk z4_; have Z := Aside0.mk z2_; clear z1_ z2_ z4_ hb ho0 zo0_)
  | ((with_reducible refine gate_callee (f := 47) rfl ?_); refine goesL_ (some 42) rfl rfl Try.func47 kf rfl #[.slice A4_ q0.length c4_, .slice A5_ q1.length c5_] rfl sm ?_; (with_reducible refine (impl_SignsAt.calls ki _ _ q0 _ _ q1 r1 r2 _ ?side1 ?side2 ?side3 ?side4 HI.out).mono ?_); (case side1 => repeat (first | exact padr2 HP0.out O4_0.out | (with_reducible refine Kd.C_alloc ?_ _) | (with_reducible refine Kd.C_drewN ?_ _) | (with_reducible refine Kd.C_drew ?_))); (case side2 => exact padl2 HP0.out (Kd.S_reads' O4_0.out).2.1); (case side3 => repeat (first | exact padr HP1.out O5_0.out | (with_reducible refine Kd.C_alloc ?_ _) | (with_reducible refine Kd.C_drewN ?_ _) | (with_reducible refine Kd.C_drew ?_))); (case side4 => exact padl HP1.out (Kd.R_reads' O5_0.out).2.1); rintro e w6_ ⟨v6_, rfl, ho0, hb⟩; refine ⟨_, rfl, ?_⟩; obtain ⟨a6_, b6_, z1_, z2_, z3_, z4_⟩ := made (by exact Z.out) bz hb ho0; have nO1_0_ := Aside0.mk (Kd.S_below (kS O1_0) hb); have nO2_0_ := Aside0.mk (Kd.R_below (kr O2_0) hb); have nO3_ := Aside0.mk (Kd.R_below (kr O3) hb); have nO4_0_ := Aside0.mk (Kd.S_below (kS O4_0) hb); have nO5_0_ := Aside0.mk (Kd.R_below (kr O5_0) hb); clear O1_0 O2_0 O3 O4_0 O5_0 HB Z; have O1_0 := nO1_0_; have O2_0 := nO2_0_; have O3 := nO3_; have O4_0 := nO4_0_; have O5_0 := nO5_0_; clear nO1_0_ nO2_0_ nO3_ nO4_0_ nO5_0_; have O6 := Aside0.mk z3_; have Q6 := Aside0.mk z1_; have HB := Aside0.mk z4_; have Z := Aside0.mk z2_; clear z1_ z2_ z3_ z4_ hb ho0; obtain ⟨A6_, c6_, e6_⟩ := Kd.R_slice O6.out; subst e6_)
  | ((with_reducible refine gate_callee (f := 48) rfl ?_); refine goesL_ (some 47) rfl rfl Try.func48 kf rfl #[.slice A6_ r1.length c6_, .slice A3_ r1.length c3_] rfl sm ?_; (with_reducible refine (laws_eqIntS.calls (r1.length + 1) _ _ r1 _ _ r1 true _ ?side1 ?side2 ?side3 ?side4 HE.out).mono ?_); (case side1 => exact cr O6); (case side2 => exact (Kd.R_reads' O6.out).2.1); (case side3 => exact cr O3); (case side4 => exact (Kd.R_reads' O3.out).2.1); rintro e w' ⟨rfl, ⟨nd, rfl⟩⟩; refine ⟨_, rfl, ?_⟩)
  | ((with_reducible refine gate_callee (f := 46) rfl ?_); refine goesL_ (some 56) rfl rfl Try.func46 kf rfl #[.slice A0 l0.length c0, .bool false] rfl sm ?_; (with_reducible refine (toTermSS_pad kw0 _ _ l0 q0 P0 _ ?side1 ?side2 HW0.out HQL0.out).mono ?_); (case side1 => repeat (first | exact HR0.out | exact (Kd.C_below HR0.out bz) | (with_reducible refine Kd.C_alloc ?_ _) | (with_reducible refine Kd.C_drewN ?_ _) | (with_reducible refine Kd.C_drew ?_))); (case side2 => exact HC0.out); rintro e w7_ ⟨A7_, c7_, rfl, ho0, hb⟩; refine ⟨_, rfl, ?_⟩; obtain ⟨a7_0_, b7_0_, z1_, z2_, zo_, z4_⟩ := madeS (by exact Z.out) bz hb ho0; have nO1_0_ := Aside0.mk (Kd.S_below (kS O1_0) hb); have nO2_0_ := Aside0.mk (Kd.R_below (kr O2_0) hb); have nO3_ := Aside0.mk (Kd.R_below (kr O3) hb); have nO4_0_ := Aside0.mk (Kd.S_below (kS O4_0) hb); have nO5_0_ := Aside0.mk (Kd.R_below (kr O5_0) hb); have nO6_ := Aside0.mk (Kd.R_below (kr O6) hb); clear O1_0 O2_0 O3 O4_0 O5_0 O6 HB Z; have O1_0 := nO1_0_; have O2_0 := nO2_0_; have O3 := nO3_; have O4_0 := nO4_0_; have O5_0 := nO5_0_; have O6 := nO6_; clear nO1_0_ nO2_0_ nO3_ nO4_0_ nO5_0_ nO6_; have O7_0 := Aside0.mk zo_; have Q7_0 := Aside0.mk z1_; have HB := Aside0.mk z4_; have Z := Aside0.mk z2_; clear z1_ z2_ z4_ zo_ hb ho0)
  | ((with_reducible refine gate_callee (f := 49) rfl ?_); refine goesL_ (some 57) rfl rfl Try.func49 kf rfl #[.slice A4_ q0.length c4_, .slice A7_ q0.length c7_] rfl sm ?_; (with_reducible refine (intactTermSS_pad ke0 _ _ _ _ q0.length P0 _ ?side1 ?side2 ?side3 ?side4 HPL0.out HQN0.out HIN0.out HE0.out).mono ?_); (case side1 => repeat (first | exact (Kd.S_reads' O4_0.out).2.2 | (with_reducible refine Kd.C_alloc ?_ _) | (with_reducible refine Kd.C_drewN ?_ _) | (with_reducible refine Kd.C_drew ?_))); (case side2 => exact (Kd.S_reads' O4_0.out).2.1); (case side3 => repeat (first | exact (Kd.S_reads' O7_0.out).2.2 | (with_reducible refine Kd.C_alloc ?_ _) | (with_reducible refine Kd.C_drewN ?_ _) | (with_reducible refine Kd.C_drew ?_))); (case side4 => exact (Kd.S_reads' O7_0.out).2.1); rintro e w8_ ⟨rfl, hb⟩; refine ⟨_, rfl, ?_⟩; obtain ⟨z2_, z4_⟩ := still (by exact Z.out) bz hb; have nO1_0_ := Aside0.mk (Kd.S_below (kS O1_0) hb); have nO2_0_ := Aside0.mk (Kd.R_below (kr O2_0) hb); have nO3_ := Aside0.mk (Kd.R_below (kr O3) hb); have nO4_0_ := Aside0.mk (Kd.S_below (kS O4_0) hb); have nO5_0_ := Aside0.mk (Kd.R_below (kr O5_0) hb); have nO6_ := Aside0.mk (Kd.R_below (kr O6) hb); have nO7_0_ := Aside0.mk (Kd.S_below (kS O7_0) hb); clear O1_0 O2_0 O3 O4_0 O5_0 O6 O7_0 HB Z; have O1_0 := nO1_0_; have O2_0 := nO2_0_; have O3 := nO3_; have O4_0 := nO4_0_; have O5_0 := nO5_0_; have O6 := nO6_; have O7_0 := nO7_0_; clear nO1_0_ nO2_0_ nO3_ nO4_0_ nO5_0_ nO6_ nO7_0_; have HB := Aside0.mk z4_; have Z := Aside0.mk z2_; clear z2_ z4_ hb)
  | ((with_reducible refine gate_callee (f := 13) rfl ?_); refine goesL_ (some 61) rfl rfl Try.func13 kf rfl #[.slice A1 l1.length c1, .bool false] rfl sm ?_; (with_reducible refine (toDyadicS_pad kw1 _ _ l1 q1 P1 _ ?side1 ?side2 HW1.out HQL1.out).mono ?_); (case side1 => repeat (first | exact HR1.out | exact (Kd.C_below HR1.out bz) | (with_reducible refine Kd.C_alloc ?_ _) | (with_reducible refine Kd.C_drewN ?_ _) | (with_reducible refine Kd.C_drew ?_))); (case side2 => exact HC1.out); rintro e w9_ ⟨A9_, c9_, rfl, ho0, hb⟩; refine ⟨_, rfl, ?_⟩; obtain ⟨a9_0_, b9_0_, z1_, z2_, zo0_, z4_⟩ := made (by exact Z.out) bz hb ho0; have nO1_0_ := Aside0.mk (Kd.S_below (kS O1_0) hb); have nO2_0_ := Aside0.mk (Kd.R_below (kr O2_0) hb); have nO3_ := Aside0.mk (Kd.R_below (kr O3) hb); have nO4_0_ := Aside0.mk (Kd.S_below (kS O4_0) hb); have nO5_0_ := Aside0.mk (Kd.R_below (kr O5_0) hb); have nO6_ := Aside0.mk (Kd.R_below (kr O6) hb); have nO7_0_ := Aside0.mk (Kd.S_below (kS O7_0) hb); clear O1_0 O2_0 O3 O4_0 O5_0 O6 O7_0 HB Z; have O1_0 := nO1_0_; have O2_0 := nO2_0_; have O3 := nO3_; have O4_0 := nO4_0_; have O5_0 := nO5_0_; have O6 := nO6_; have O7_0 := nO7_0_; clear nO1_0_ nO2_0_ nO3_ nO4_0_ nO5_0_ nO6_ nO7_0_; have O9_0 := Aside0.mk zo0_; have Q9_0 := Aside0.mk z1_; have HB := Aside0.mk z4_; have Z := Aside0.mk z2_; clear z1_ z2_ z4_ hb ho0 zo0_)
  | ((with_reducible refine gate_callee (f := 15) rfl ?_); refine goesL_ (some 62) rfl rfl Try.func15 kf rfl #[.slice A5_ q1.length c5_, .slice A9_ q1.length c9_] rfl sm ?_; (with_reducible refine (laws_intactDyadicS.pad ke1 _ _ _ _ _ P1 _ ?side1 ?side2 ?side3 ?side4 HPL1.out HQN1.out HE1.out).mono ?_); (case side1 => exact (Kd.R_reads' (kr O5_0)).2.2); (case side2 => exact (Kd.R_reads' O5_0.out).2.1); (case side3 => exact (Kd.R_reads' (kr O9_0)).2.2); (case side4 => exact (Kd.R_reads' O9_0.out).2.1); rintro e w10_ ⟨rfl, hb⟩; refine ⟨_, rfl, ?_⟩; obtain ⟨z2_, z4_⟩ := still (by exact Z.out) bz hb; have nO1_0_ := Aside0.mk (Kd.S_below (kS O1_0) hb); have nO2_0_ := Aside0.mk (Kd.R_below (kr O2_0) hb); have nO3_ := Aside0.mk (Kd.R_below (kr O3) hb); have nO4_0_ := Aside0.mk (Kd.S_below (kS O4_0) hb); have nO5_0_ := Aside0.mk (Kd.R_below (kr O5_0) hb); have nO6_ := Aside0.mk (Kd.R_below (kr O6) hb); have nO7_0_ := Aside0.mk (Kd.S_below (kS O7_0) hb); have nO9_0_ := Aside0.mk (Kd.R_below (kr O9_0) hb); clear O1_0 O2_0 O3 O4_0 O5_0 O6 O7_0 O9_0 HB Z; have O1_0 := nO1_0_; have O2_0 := nO2_0_; have O3 := nO3_; have O4_0 := nO4_0_; have O5_0 := nO5_0_; have O6 := nO6_; have O7_0 := nO7_0_; have O9_0 := nO9_0_; clear nO1_0_ nO2_0_ nO3_ nO4_0_ nO5_0_ nO6_ nO7_0_ nO9_0_; have HB := Aside0.mk z4_; have Z := Aside0.mk z2_; clear z2_ z4_ hb)
  | ((with_reducible refine gate_callee (f := 50) rfl ?_); refine goesL_ (some 66) rfl rfl Try.func50 kf rfl #[.slice A4_ q0.length c4_, .int .i64 101] rfl sm ?_; (with_reducible refine (markTermSS_calls (fun k => a4_0_ ≤ k ∧ k < b4_0_) _ q0 101 w _ ?side1 ?side2 HMA0.out.1 HMA0.out.2.1 HMA0.out.2.2).mono ?_); (case side1 => exact bz); (case side2 => exact padseen2 HP0.out (kS O4_0)); rintro e w11_ ⟨he_, ho0, hb, hk⟩; rw [HMV0.out] at he_; subst he_; refine ⟨_, rfl, ?_⟩; have nO1_0_ := Aside0.mk (Kd.S_kept (kS O1_0) hk (fun k_ h1_ h2_ => by have := Q1_0.out; have := Q2_0.out; have := Q3.out; have := Q4_0.out; have := Q5_0.out; have := Q6.out; have := Q7_0.out; have := Q9_0.out; omega)); have nO2_0_ := Aside0.mk (Kd.R_kept (kr O2_0) hk (fun k_ h1_ h2_ => by have := Q1_0.out; have := Q2_0.out; have := Q3.out; have := Q4_0.out; have := Q5_0.out; have := Q6.out; have := Q7_0.out; have := Q9_0.out; omega)); have nO3_ := Aside0.mk (Kd.R_kept (kr O3) hk (fun k_ h1_ h2_ => by have := Q1_0.out; have := Q2_0.out; have := Q3.out; have := Q4_0.out; have := Q5_0.out; have := Q6.out; have := Q7_0.out; have := Q9_0.out; omega)); have nO5_0_ := Aside0.mk (Kd.R_kept (kr O5_0) hk (fun k_ h1_ h2_ => by have := Q1_0.out; have := Q2_0.out; have := Q3.out; have := Q4_0.out; have := Q5_0.out; have := Q6.out; have := Q7_0.out; have := Q9_0.out; omega)); have nO6_ := Aside0.mk (Kd.R_kept (kr O6) hk (fun k_ h1_ h2_ => by have := Q1_0.out; have := Q2_0.out; have := Q3.out; have := Q4_0.out; have := Q5_0.out; have := Q6.out; have := Q7_0.out; have := Q9_0.out; omega)); have nO7_0_ := Aside0.mk (Kd.S_kept (kS O7_0) hk (fun k_ h1_ h2_ => by have := Q1_0.out; have := Q2_0.out; have := Q3.out; have := Q4_0.out; have := Q5_0.out; have := Q6.out; have := Q7_0.out; have := Q9_0.out; omega)); have nO9_0_ := Aside0.mk (Kd.R_kept (kr O9_0) hk (fun k_ h1_ h2_ => by have := Q1_0.out; have := Q2_0.out; have := Q3.out; have := Q4_0.out; have := Q5_0.out; have := Q6.out; have := Q7_0.out; have := Q9_0.out; omega)); have z2_ := Aside0.mk (Nat.le_trans (by exact Z.out) hk.1); clear O1_0 O2_0 O3 O5_0 O6 O7_0 O9_0 O4_0 HB Z; have O1_0 := nO1_0_; have O2_0 := nO2_0_; have O3 := nO3_; have O5_0 := nO5_0_; have O6 := nO6_; have O7_0 := nO7_0_; have O9_0 := nO9_0_; have HB := Aside0.mk hb; have Z := z2_; clear nO1_0_ nO2_0_ nO3_ nO5_0_ nO6_ nO7_0_ nO9_0_ z2_ hb hk ho0)
  | ((with_reducible refine gate_callee (f := 51) rfl ?_); refine goesL_ (some 69) rfl rfl Try.func51 kf rfl #[.slice A5_ q1.length c5_, .int .i64 m0] rfl sm ?_; (with_reducible refine (laws_markDyadicS.calls km1 (fun k => a5_0_ ≤ k ∧ k < b5_0_) _ q1 m0 m1 (marksD m0 q1.length) w _ ?side1 ?side2 HM1.out).mono ?_); (case side1 => exact bz); (case side2 => exact padseen HP1.out (kr O5_0)); rintro e w12_ ⟨rfl, ho0, hb, hk⟩; refine ⟨_, rfl, ?_⟩; have nO1_0_ := Aside0.mk (Kd.S_kept (kS O1_0) hk (fun k_ h1_ h2_ => by have := Q1_0.out; have := Q2_0.out; have := Q3.out; have := Q4_0.out; have := Q5_0.out; have := Q6.out; have := Q7_0.out; have := Q9_0.out; omega)); have nO2_0_ := Aside0.mk (Kd.R_kept (kr O2_0) hk (fun k_ h1_ h2_ => by have := Q1_0.out; have := Q2_0.out; have := Q3.out; have := Q4_0.out; have := Q5_0.out; have := Q6.out; have := Q7_0.out; have := Q9_0.out; omega)); have nO3_ := Aside0.mk (Kd.R_kept (kr O3) hk (fun k_ h1_ h2_ => by have := Q1_0.out; have := Q2_0.out; have := Q3.out; have := Q4_0.out; have := Q5_0.out; have := Q6.out; have := Q7_0.out; have := Q9_0.out; omega)); have nO6_ := Aside0.mk (Kd.R_kept (kr O6) hk (fun k_ h1_ h2_ => by have := Q1_0.out; have := Q2_0.out; have := Q3.out; have := Q4_0.out; have := Q5_0.out; have := Q6.out; have := Q7_0.out; have := Q9_0.out; omega)); have nO7_0_ := Aside0.mk (Kd.S_kept (kS O7_0) hk (fun k_ h1_ h2_ => by have := Q1_0.out; have := Q2_0.out; have := Q3.out; have := Q4_0.out; have := Q5_0.out; have := Q6.out; have := Q7_0.out; have := Q9_0.out; omega)); have nO9_0_ := Aside0.mk (Kd.R_kept (kr O9_0) hk (fun k_ h1_ h2_ => by have := Q1_0.out; have := Q2_0.out; have := Q3.out; have := Q4_0.out; have := Q5_0.out; have := Q6.out; have := Q7_0.out; have := Q9_0.out; omega)); have z2_ := Aside0.mk (Nat.le_trans (by exact Z.out) hk.1); clear O1_0 O2_0 O3 O6 O7_0 O9_0 O5_0 HB Z; have O1_0 := nO1_0_; have O2_0 := nO2_0_; have O3 := nO3_; have O6 := nO6_; have O7_0 := nO7_0_; have O9_0 := nO9_0_; have HB := Aside0.mk hb; have Z := z2_; clear nO1_0_ nO2_0_ nO3_ nO6_ nO7_0_ nO9_0_ z2_ hb hk ho0)
  | (go_at_call 48; (with_reducible refine (laws_eqIntS.calls (r1.length + 1) _ _ r1 _ _ r1 true _ ?side1 ?side2 ?side3 ?side4 HE.out).mono ?_); (case side1 => exact cr O6); (case side2 => exact (Kd.R_reads' O6.out).2.1); (case side3 => exact cr O3); (case side4 => exact (Kd.R_reads' O3.out).2.1); rintro e w' ⟨rfl, ⟨nd, rfl⟩⟩)
  | ((with_reducible refine gate_callee (f := 52) rfl ?_); refine goesL_ (some 85) rfl rfl Try.func52 kf rfl #[.slice A6_ r1.length c6_, .int .i64 101] rfl sm ?_; (with_reducible refine (laws_markIntS.calls kg (fun k => a6_ ≤ k ∧ k < b6_) _ r1 101 mg (marks 101 r1.length) w _ ?side1 ?side2 HG.out).mono ?_); (case side1 => exact bz); (case side2 => exact (kr O6)); rintro e w13_ ⟨rfl, ho0, hb, hk⟩; refine ⟨_, rfl, ?_⟩; have nO1_0_ := Aside0.mk (Kd.S_kept (kS O1_0) hk (fun k_ h1_ h2_ => by have := Q1_0.out; have := Q2_0.out; have := Q3.out; have := Q4_0.out; have := Q5_0.out; have := Q6.out; have := Q7_0.out; have := Q9_0.out; omega)); have nO2_0_ := Aside0.mk (Kd.R_kept (kr O2_0) hk (fun k_ h1_ h2_ => by have := Q1_0.out; have := Q2_0.out; have := Q3.out; have := Q4_0.out; have := Q5_0.out; have := Q6.out; have := Q7_0.out; have := Q9_0.out; omega)); have nO3_ := Aside0.mk (Kd.R_kept (kr O3) hk (fun k_ h1_ h2_ => by have := Q1_0.out; have := Q2_0.out; have := Q3.out; have := Q4_0.out; have := Q5_0.out; have := Q6.out; have := Q7_0.out; have := Q9_0.out; omega)); have nO7_0_ := Aside0.mk (Kd.S_kept (kS O7_0) hk (fun k_ h1_ h2_ => by have := Q1_0.out; have := Q2_0.out; have := Q3.out; have := Q4_0.out; have := Q5_0.out; have := Q6.out; have := Q7_0.out; have := Q9_0.out; omega)); have nO9_0_ := Aside0.mk (Kd.R_kept (kr O9_0) hk (fun k_ h1_ h2_ => by have := Q1_0.out; have := Q2_0.out; have := Q3.out; have := Q4_0.out; have := Q5_0.out; have := Q6.out; have := Q7_0.out; have := Q9_0.out; omega)); have z2_ := Aside0.mk (Nat.le_trans (by exact Z.out) hk.1); have nO6_ := Aside0.mk (Kd.R_mono ho0 (ok' := fun _ => True) (fun _ _ => trivial)); clear O1_0 O2_0 O3 O7_0 O9_0 O6 HB Z; have O1_0 := nO1_0_; have O2_0 := nO2_0_; have O3 := nO3_; have O7_0 := nO7_0_; have O9_0 := nO9_0_; have O6 := nO6_; have HB := Aside0.mk hb; have Z := z2_; clear nO1_0_ nO2_0_ nO3_ nO7_0_ nO9_0_ nO6_ z2_ hb hk ho0)
  | ((with_reducible refine gate_callee (f := 53) rfl ?_); refine goesL_ (some 88) rfl rfl Try.func53 kf rfl #[.slice A6_ r1.length c6_, .int .i64 101] rfl sm ?_; (with_reducible refine (held_calls kh _ _ r1.length 101 mg _ ?side1 ?side2 HH.out).mono ?_); (case side1 => exact cr O6); (case side2 => exact (Kd.R_reads' O6.out).2.1); rintro e w' ⟨rfl, ⟨nd, rfl⟩⟩; refine ⟨_, rfl, ?_⟩)
  | ((with_reducible refine gate_callee (f := 46) rfl ?_); refine goesL_ (some 96) rfl rfl Try.func46 kf rfl #[.slice A0 l0.length c0, .bool true] rfl sm ?_; (with_reducible refine (laws_toTermSS.calls kb0 _ _ l0 true q0 _ ?side1 ?side2 HBA0.out).mono ?_); (case side1 => repeat (first | exact HR0.out | exact (Kd.C_below HR0.out bz) | (with_reducible refine Kd.C_alloc ?_ _) | (with_reducible refine Kd.C_drewN ?_ _) | (with_reducible refine Kd.C_drew ?_))); (case side2 => exact HC0.out); rintro e w14_ ⟨v14_, rfl, ho0, hb⟩; refine ⟨_, rfl, ?_⟩; obtain ⟨a14_0_, b14_0_, z1_, z2_, zo_, z4_⟩ := madeS (by exact Z.out) bz hb ho0; have nO1_0_ := Aside0.mk (Kd.S_below (kS O1_0) hb); have nO2_0_ := Aside0.mk (Kd.R_below (kr O2_0) hb); have nO3_ := Aside0.mk (Kd.R_below (kr O3) hb); have nO6_ := Aside0.mk (Kd.R_below (kr O6) hb); have nO7_0_ := Aside0.mk (Kd.S_below (kS O7_0) hb); have nO9_0_ := Aside0.mk (Kd.R_below (kr O9_0) hb); clear O1_0 O2_0 O3 O6 O7_0 O9_0 HB Z; have O1_0 := nO1_0_; have O2_0 := nO2_0_; have O3 := nO3_; have O6 := nO6_; have O7_0 := nO7_0_; have O9_0 := nO9_0_; clear nO1_0_ nO2_0_ nO3_ nO6_ nO7_0_ nO9_0_; have O14_0 := Aside0.mk zo_; have Q14_0 := Aside0.mk z1_; have HB := Aside0.mk z4_; have Z := Aside0.mk z2_; clear z1_ z2_ z4_ zo_ hb ho0; obtain ⟨A14_, c14_, e14_⟩ := Kd.S_slice O14_0.out; subst e14_)
  | ((with_reducible refine gate_callee (f := 13) rfl ?_); refine goesL_ (some 98) rfl rfl Try.func13 kf rfl #[.slice A1 l1.length c1, .bool true] rfl sm ?_; (with_reducible refine (laws_toDyadicS.calls kb1 _ _ l1 true q1 _ ?side1 ?side2 HBA1.out).mono ?_); (case side1 => repeat (first | exact HR1.out | exact (Kd.C_below HR1.out bz) | (with_reducible refine Kd.C_alloc ?_ _) | (with_reducible refine Kd.C_drewN ?_ _) | (with_reducible refine Kd.C_drew ?_))); (case side2 => exact HC1.out); rintro e w15_ ⟨v15_, rfl, ho0, hb⟩; refine ⟨_, rfl, ?_⟩; obtain ⟨a15_0_, b15_0_, z1_, z2_, zo0_, z4_⟩ := made (by exact Z.out) bz hb ho0; have nO1_0_ := Aside0.mk (Kd.S_below (kS O1_0) hb); have nO2_0_ := Aside0.mk (Kd.R_below (kr O2_0) hb); have nO3_ := Aside0.mk (Kd.R_below (kr O3) hb); have nO6_ := Aside0.mk (Kd.R_below (kr O6) hb); have nO7_0_ := Aside0.mk (Kd.S_below (kS O7_0) hb); have nO9_0_ := Aside0.mk (Kd.R_below (kr O9_0) hb); have nO14_0_ := Aside0.mk (Kd.S_below (kS O14_0) hb); clear O1_0 O2_0 O3 O6 O7_0 O9_0 O14_0 HB Z; have O1_0 := nO1_0_; have O2_0 := nO2_0_; have O3 := nO3_; have O6 := nO6_; have O7_0 := nO7_0_; have O9_0 := nO9_0_; have O14_0 := nO14_0_; clear nO1_0_ nO2_0_ nO3_ nO6_ nO7_0_ nO9_0_ nO14_0_; have O15_0 := Aside0.mk zo0_; have Q15_0 := Aside0.mk z1_; have HB := Aside0.mk z4_; have Z := Aside0.mk z2_; clear z1_ z2_ z4_ hb ho0 zo0_; obtain ⟨A15_, c15_, e15_⟩ := Kd.R_slice O15_0.out; subst e15_)
  | ((with_reducible refine gate_callee (f := 47) rfl ?_); refine goesL_ (some 99) rfl rfl Try.func47 kf rfl #[.slice A14_ q0.length c14_, .slice A15_ q1.length c15_] rfl sm ?_; (with_reducible refine (impl_SignsAt.calls ki _ _ q0 _ _ q1 r1 r2 _ ?side1 ?side2 ?side3 ?side4 HI.out).mono ?_); (case side1 => repeat (first | exact (Kd.S_reads' O14_0.out).2.2 | (with_reducible refine Kd.C_alloc ?_ _) | (with_reducible refine Kd.C_drewN ?_ _) | (with_reducible refine Kd.C_drew ?_))); (case side2 => exact (Kd.S_reads' O14_0.out).2.1); (case side3 => exact cr O15_0); (case side4 => exact (Kd.R_reads' O15_0.out).2.1); rintro e w16_ ⟨v16_, rfl, ho0, hb⟩; refine ⟨_, rfl, ?_⟩; obtain ⟨a16_, b16_, z1_, z2_, z3_, z4_⟩ := made (by exact Z.out) bz hb ho0; have nO1_0_ := Aside0.mk (Kd.S_below (kS O1_0) hb); have nO2_0_ := Aside0.mk (Kd.R_below (kr O2_0) hb); have nO3_ := Aside0.mk (Kd.R_below (kr O3) hb); have nO6_ := Aside0.mk (Kd.R_below (kr O6) hb); have nO7_0_ := Aside0.mk (Kd.S_below (kS O7_0) hb); have nO9_0_ := Aside0.mk (Kd.R_below (kr O9_0) hb); have nO14_0_ := Aside0.mk (Kd.S_below (kS O14_0) hb); have nO15_0_ := Aside0.mk (Kd.R_below (kr O15_0) hb); clear O1_0 O2_0 O3 O6 O7_0 O9_0 O14_0 O15_0 HB Z; have O1_0 := nO1_0_; have O2_0 := nO2_0_; have O3 := nO3_; have O6 := nO6_; have O7_0 := nO7_0_; have O9_0 := nO9_0_; have O14_0 := nO14_0_; have O15_0 := nO15_0_; clear nO1_0_ nO2_0_ nO3_ nO6_ nO7_0_ nO9_0_ nO14_0_ nO15_0_; have O16 := Aside0.mk z3_; have Q16 := Aside0.mk z1_; have HB := Aside0.mk z4_; have Z := Aside0.mk z2_; clear z1_ z2_ z3_ z4_ hb ho0; obtain ⟨A16_, c16_, e16_⟩ := Kd.R_slice O16.out; subst e16_)
  | ((with_reducible refine gate_callee (f := 48) rfl ?_); refine goesL_ (some 104) rfl rfl Try.func48 kf rfl #[.slice A16_ r1.length c16_, .slice A3_ r1.length c3_] rfl sm ?_; (with_reducible refine (laws_eqIntS.calls (r1.length + 1) _ _ r1 _ _ r1 true _ ?side1 ?side2 ?side3 ?side4 HE.out).mono ?_); (case side1 => exact cr O16); (case side2 => exact (Kd.R_reads' O16.out).2.1); (case side3 => exact cr O3); (case side4 => exact (Kd.R_reads' O3.out).2.1); rintro e w' ⟨rfl, ⟨nd, rfl⟩⟩; refine ⟨_, rfl, ?_⟩)
  | ((with_reducible refine gate_callee (f := 53) rfl ?_); refine goesL_ (some 113) rfl rfl Try.func53 kf rfl #[.slice A6_ r1.length c6_, .int .i64 101] rfl sm ?_; (with_reducible refine (held_calls kh _ _ r1.length 101 mg _ ?side1 ?side2 HH.out).mono ?_); (case side1 => exact cr O6); (case side2 => exact (Kd.R_reads' O6.out).2.1); rintro e w' ⟨rfl, ⟨nd, rfl⟩⟩; refine ⟨_, rfl, ?_⟩))
 go_ret
 exact ⟨by first | rfl | (simp; done), bz⟩
set_option maxHeartbeats 8000000 in
set_option maxRecDepth 100000 in
theorem law_big0 (A0 : Option Addr) (c0 : Nat) (l0 : List (List S109)) (A1 : Option Addr) (c1 : Nat) (l1 : List S82) (w : World) (hr0 : Kd.C (Kd.slice 109 k109) w A0 l0.length l0) (hc0 : l0.length ≤ c0) (hr1 : Kd.C k82 w A1 l1.length l1) (hc1 : l1.length ≤ c1) (hn : ¬ l0.length + total l0 ≤ 1000000) :
 Calls Try.prog 10 #[.slice A0 l0.length c0, .slice A1 l1.length c1] w fun e w' => e = .returned (.bool true) ∧ Below w.heap.size w w' := by
 have HR0 := Aside0.mk hr0; have HC0 := Aside0.mk hc0; have hm0 := hr0.2.1; have hml0 := C_lens hr0
 have HR1 := Aside0.mk hr1; have HC1 := Aside0.mk hc1; have hm1 := hr1.2.1
 obtain ⟨s0, hs0⟩ : ∃ s : Int, s = (-1) := ⟨_, rfl⟩
 obtain ⟨kz0, hzs0⟩ := szTermSS_eq l0 hm0 hml0 (1000000) (by omega) (by omega)
 rw [if_neg (by omega)] at hzs0
 replace hzs0 : laws_szTermSS.f kz0 l0 1000000 = some s0 := hzs0.trans (congrArg some (by omega))
 have HSZ0 := Aside0.mk hzs0
 have cs0 : decide (s0 < 0) = true := decide_eq_true (by omega)
 have HB := Aside0.mk (Below.refl w.heap.size w)
 have Z := Aside0.mk (Nat.zero_le w.heap.size)
 clear hn hr0 hc0 hm0 hml0 hr1 hc1 hm1 hs0 hzs0
 go_enter Try.func10, Try.ntmps10
 go_wp2_with (first
  | ((with_reducible refine gate_callee (f := 44) rfl ?_); refine goesL_ (some 19) rfl rfl Try.func44 kf rfl #[.slice A0 l0.length c0, .int .i64 1000000] rfl sm ?_; (with_reducible refine (laws_szTermSS.calls kz0 _ _ l0 1000000 s0 _ ?side1 ?side2 HSZ0.out).mono ?_); (case side1 => repeat (first | exact HR0.out | exact (Kd.C_below HR0.out bz) | (with_reducible refine Kd.C_alloc ?_ _) | (with_reducible refine Kd.C_drewN ?_ _) | (with_reducible refine Kd.C_drew ?_))); (case side2 => exact HC0.out); rintro e w' ⟨rfl, ⟨nd, rfl⟩⟩; refine ⟨_, rfl, ?_⟩))
 go_ret
 exact ⟨by first | rfl | (simp; done), bz⟩
set_option maxHeartbeats 8000000 in
set_option maxRecDepth 100000 in
theorem law_big1 (A0 : Option Addr) (c0 : Nat) (l0 : List (List S109)) (A1 : Option Addr) (c1 : Nat) (l1 : List S82) (w : World) (hr0 : Kd.C (Kd.slice 109 k109) w A0 l0.length l0) (hc0 : l0.length ≤ c0) (hr1 : Kd.C k82 w A1 l1.length l1) (hc1 : l1.length ≤ c1) (hn1 : l0.length + total l0 ≤ 1000000) (hn : ¬ l0.length + total l0 + l1.length ≤ 1000000) :
 Calls Try.prog 10 #[.slice A0 l0.length c0, .slice A1 l1.length c1] w fun e w' => e = .returned (.bool true) ∧ Below w.heap.size w w' := by
 have HR0 := Aside0.mk hr0; have HC0 := Aside0.mk hc0; have hm0 := hr0.2.1; have hml0 := C_lens hr0
 have HR1 := Aside0.mk hr1; have HC1 := Aside0.mk hc1; have hm1 := hr1.2.1
 obtain ⟨s0, hs0⟩ : ∃ s : Int, s = (1000000 : Int) - (l0.length : Int) - (total l0 : Int) := ⟨_, rfl⟩
 obtain ⟨kz0, hzs0⟩ := szTermSS_eq l0 hm0 hml0 (1000000) (by omega) (by omega)
 rw [if_pos (by omega)] at hzs0
 replace hzs0 : laws_szTermSS.f kz0 l0 1000000 = some s0 := hzs0.trans (congrArg some (by omega))
 have HSZ0 := Aside0.mk hzs0
 have cs0 : decide (s0 < 0) = false := decide_eq_false (by omega)
 obtain ⟨s1, hs1⟩ : ∃ s : Int, s = (-1) := ⟨_, rfl⟩
 have hzs1 : laws_szDyadicS.f l1 s0 = some s1 := by unfold laws_szDyadicS.f; rw [if_pos (by unfold wrap64; omega), hs1]
 have HSZ1 := Aside0.mk hzs1
 have cs1 : decide (s1 < 0) = true := decide_eq_true (by omega)
 have HB := Aside0.mk (Below.refl w.heap.size w)
 have Z := Aside0.mk (Nat.zero_le w.heap.size)
 clear hn hn1 hr0 hc0 hm0 hml0 hr1 hc1 hm1 hs0 hzs0 hs1 hzs1
 go_enter Try.func10, Try.ntmps10
 go_wp2_with (first
  | ((with_reducible refine gate_callee (f := 44) rfl ?_); refine goesL_ (some 19) rfl rfl Try.func44 kf rfl #[.slice A0 l0.length c0, .int .i64 1000000] rfl sm ?_; (with_reducible refine (laws_szTermSS.calls kz0 _ _ l0 1000000 s0 _ ?side1 ?side2 HSZ0.out).mono ?_); (case side1 => repeat (first | exact HR0.out | exact (Kd.C_below HR0.out bz) | (with_reducible refine Kd.C_alloc ?_ _) | (with_reducible refine Kd.C_drewN ?_ _) | (with_reducible refine Kd.C_drew ?_))); (case side2 => exact HC0.out); rintro e w' ⟨rfl, ⟨nd, rfl⟩⟩; refine ⟨_, rfl, ?_⟩)
  | ((with_reducible refine gate_callee (f := 11) rfl ?_); refine goesL_ (some 24) rfl rfl Try.func11 kf rfl #[.slice A1 l1.length c1, .int .i64 s0] rfl sm ?_; (with_reducible refine (laws_szDyadicS.calls _ _ l1 s0 s1 _ ?side1 ?side2 HSZ1.out).mono ?_); (case side1 => repeat (first | exact HR1.out | exact (Kd.C_below HR1.out bz) | (with_reducible refine Kd.C_alloc ?_ _) | (with_reducible refine Kd.C_drewN ?_ _) | (with_reducible refine Kd.C_drew ?_))); (case side2 => exact HC1.out); rintro e w' ⟨rfl, ⟨nd, rfl⟩⟩; refine ⟨_, rfl, ?_⟩))
 go_ret
 exact ⟨by first | rfl | (simp; done), bz⟩
def Pure : Prop := ∀ (l0 : List (List S109)) (l1 : List S82), l0.length + total l0 + l1.length ≤ 1000000 → ∃ (ks ki : Nat) (r1 : List Int) (r2 : Bool), spec_SignsAt.f ks (l0.map (List.map cvTermS)) (l1.map cvDyadicS) = some (r1, r2) ∧ impl_SignsAt.f ki (l0.map (List.map cvTermS)) (l1.map cvDyadicS) = some (r1, r2) ∧ r1.length ≤ 1000000
theorem law_holds (P_ : Pure) (A0 : Option Addr) (c0 : Nat) (l0 : List (List S109)) (A1 : Option Addr) (c1 : Nat) (l1 : List S82) (w : World) (hr0 : Kd.C (Kd.slice 109 k109) w A0 l0.length l0) (hc0 : l0.length ≤ c0) (hr1 : Kd.C k82 w A1 l1.length l1) (hc1 : l1.length ≤ c1) :
 Calls Try.prog 10 #[.slice A0 l0.length c0, .slice A1 l1.length c1] w fun e w' => e = .returned (.bool true) ∧ Below w.heap.size w w' := by
 by_cases hn0 : l0.length + total l0 ≤ 1000000
 case neg => exact law_big0 A0 c0 l0 A1 c1 l1 w hr0 hc0 hr1 hc1 hn0
 by_cases hn1 : l0.length + total l0 + l1.length ≤ 1000000
 case neg => exact law_big1 A0 c0 l0 A1 c1 l1 w hr0 hc0 hr1 hc1 hn0 hn1
 have hn := hn1
 obtain ⟨ks, ki, r1, r2, hs, hi, hg⟩ := P_ l0 l1 (by omega)
 obtain ⟨kw1, hw1⟩ := toDyadicS_whole l1 (by omega)
 obtain ⟨kb1, hba1⟩ := toDyadicS_bare l1 (by omega)
 have hrm1 := room_le l1.length
 have hl0 : ∀ q ∈ l0, q.length ≤ 1000000 := fun q hq => by have := total_le l0 q hq; omega
 obtain ⟨kw0, hw0⟩ := toTermSS_whole l0 (by omega) hl0
 obtain ⟨kb0, hba0⟩ := toTermSS_bare l0 (by omega) hl0
 have hrm0 := room_le l0.length
 obtain ⟨ke0, he0⟩ := padTermSS_eq l0 (by omega)
 exact law_walk A0 c0 l0 A1 c1 l1 _ (padDyadicS l1) kw1 kb1 ((padDyadicS l1).length + 1) (l0.map (List.map cvTermS)) (padTermSS l0) kw0 kb0 ke0  w hr0 hc0 hr1 hc1 hw1 hba1 (by simp) ⟨_, rfl⟩ (by rw [padDyadicS_length, List.length_map]) (eqDyadicS_self _ (by rw [padDyadicS_length]; omega)) hw0 hba0 (by first | rfl | simp) (padTermSS_told l0) (by simp [padTermSS_length]) (by first | exact padTermSS_in l0 hl0 | (rw [List.length_map]; exact padTermSS_in l0 hl0)) (by first | exact he0 | (rw [List.length_map]; exact he0)) (by first | rfl | exact total_map _ _)  (by omega) ks ki r1 r2 hs hi hg
end Go.Proofs.Ytalcohajbcijlaa.QSiA
