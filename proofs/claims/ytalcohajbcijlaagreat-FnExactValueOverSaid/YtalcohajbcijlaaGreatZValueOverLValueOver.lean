import Derived.Test.YtalcohajbcijlaaGreatZValueOverLaValueOver
namespace Go.Proofs.YtalcohajbcijlaaGreat.QVov
open Go.RowKit Go.Proofs.YtalcohajbcijlaaGreatW.PrintWords Go.Proofs.YtalcohajbcijlaaGreatW.PrintLast Go.Proofs.YtalcohajbcijlaaGreatW.PrintMore
set_option linter.unusedVariables false
set_option linter.unusedSimpArgs false
set_option maxHeartbeats 8000000 in
set_option maxRecDepth 100000 in
theorem law_walk (A0 : Option Addr) (c0 : Nat) (l0 : List S57) (a1 : Int) (A1_1 : Option Addr) (c1_1 : Nat) (l1_1 : List Int) (A1_2 : Option Addr) (c1_2 : Nat) (l1_2 : List Int) (q0 P0 : List S55) (kw0 kb0 ke0 : Nat)  (kb1 : Nat) (w : World) (hr0 : Kd.C k57 w A0 l0.length l0) (hc0 : l0.length ≤ c0) (hr1_1 : Kd.C (Kd.int .i64) w A1_1 l1_1.length l1_1) (hc1_1 : l1_1.length ≤ c1_1) (hr1_2 : Kd.C (Kd.int .i64) w A1_2 l1_2.length l1_2) (hc1_2 : l1_2.length ≤ c1_2) (hw0 : laws_toTermSW.f kw0 l0 false = some P0) (hba0 : laws_toTermS.f kb0 l0 true = some q0) (hql0 : q0.length = l0.length) (hp0 : ∃ f, P0 = q0 ++ f) (hpl0 : P0.length = q0.length + room q0.length) (he0 : laws_eqTermS.f ke0 P0 P0 = some true)   (hba1 : laws_toBox.f kb1 a1 l1_1 l1_2 true = some (a1, l1_1, l1_2)) (hn : l0.length + l1_1.length + l1_2.length ≤ 1000000) (ks ki : Nat) (r1_0 : Int) (r1_1 : Int) (r1_2 : Int) (r1_3 : Int) (r2 : Bool) (hs : spec_ValueOver.f ks q0 a1 l1_1 l1_2 = some (r1_0, r1_1, r1_2, r1_3, r2)) (hi : impl_ValueOver.f ki q0 a1 l1_1 l1_2 = some (r1_0, r1_1, r1_2, r1_3, r2)) :
 Calls Tryz.prog 3 #[.slice A0 l0.length c0, .agg #[.int .i64 a1, .slice A1_1 l1_1.length c1_1, .slice A1_2 l1_2.length c1_2]] w fun e w' => e = .returned (.bool true) ∧ Below w.heap.size w w' := by
 have HR0 := Aside0.mk hr0
 have HC0 := Aside0.mk hc0
 have hm0 := hr0.2.1
 have HR1_1 := Aside0.mk hr1_1
 have HC1_1 := Aside0.mk hc1_1
 have hm1_1 := hr1_1.2.1
 have HR1_2 := Aside0.mk hr1_2
 have HC1_2 := Aside0.mk hc1_2
 have hm1_2 := hr1_2.2.1
 have HW0 := Aside0.mk hw0
 have HBA0 := Aside0.mk hba0
 have HQL0 := Aside0.mk hql0
 have HP0 := Aside0.mk hp0
 have HPL0 := Aside0.mk hpl0
 have HQN0 : Aside0 (q0.length ≤ 1000000) := ⟨by omega⟩
 have HE0 := Aside0.mk he0
 have HN1_1 : Aside0 (l1_1.length ≤ 1000000) := ⟨by omega⟩
 have HP1_1 : Aside0 (∃ f, pad l1_1 = l1_1 ++ f) := ⟨_, rfl⟩
 have HN1_2 : Aside0 (l1_2.length ≤ 1000000) := ⟨by omega⟩
 have HP1_2 : Aside0 (∃ f, pad l1_2 = l1_2 ++ f) := ⟨_, rfl⟩
 have HBA1 := Aside0.mk hba1
 have HEQInterval := Aside0.mk (eqInterval_self r1_0 r1_1 r1_2 r1_3)
 obtain ⟨s0, hs0⟩ : ∃ s : Int, s = (1000000 : Int) - (l0.length : Int) := ⟨_, rfl⟩
 have hzs0 : laws_szTermS.f l0 1000000 = some s0 := by unfold laws_szTermS.f; rw [if_neg (by unfold wrap64; omega)]; congr 1; unfold wrap64; omega
 have HSZ0 := Aside0.mk hzs0
 have cs0 : decide (s0 < 0) = false := decide_eq_false (by omega)
 obtain ⟨s1, hs1⟩ : ∃ s : Int, s = (s0 : Int) - (l1_1.length : Int) - (l1_2.length : Int) := ⟨_, rfl⟩
 have hzs1 : laws_szBox.f a1 l1_1 l1_2 s0 = some s1 := by unfold laws_szBox.f; unfold laws_szIntS.f; (by_cases hA_ : wrap64 (s0 - (l1_1.length : Int)) < 0 <;> by_cases hB_ : wrap64 (wrap64 (s0 - (l1_1.length : Int)) - (l1_2.length : Int)) < 0 <;> simp [hA_, hB_] <;> (unfold wrap64 at *; omega))
 have HSZ1 := Aside0.mk hzs1
 have cs1 : decide (s1 < 0) = false := decide_eq_false (by omega)
 have HS := Aside0.mk hs
 have HI := Aside0.mk hi
 have HB := Aside0.mk (Below.refl w.heap.size w)
 have Z := Aside0.mk (Nat.zero_le w.heap.size)
 clear hs hi hr0 hc0 hr1_1 hc1_1 hr1_2 hc1_2 hw0 hba0 hql0 hp0 hpl0 he0 hba1 hs0 hzs0 hs1 hzs1 hn hm0 hm1_1 hm1_2
 go_enter Tryz.func3, Tryz.ntmps3
 go_wp2_with (first
  | ((with_reducible refine gate_dst (N := 3) rfl ?_); refine bv (N := 3) (cs := #[.int .i64 a1, .slice A1_1 l1_1.length c1_1, .slice A1_2 l1_2.length c1_2]) (t := 25) ?_; intro gb1_ hg w1_ hbox hb; obtain ⟨z2_, z4_⟩ := still (by exact Z.out) bz hb; have GB1 : Aside0 (0 ≤ gb1_) := ⟨by rw [hg]; exact Z.out⟩; have zb_ : gb1_ + 1 ≤ w1_.heap.size := blk_lt hbox; have BK1 := Aside0.mk hbox; clear HB Z; have HB := Aside0.mk z4_; have Z := Aside0.mk zb_; clear z2_ z4_ zb_ hb hg hbox; have hcz2_BK1_0 : w1_.cell? ⟨gb1_, 0, none⟩ = some (.int .i64 a1) := (blk_cell BK1.out 0).trans rfl; have hfz2_BK1_0 := blk_frozen BK1.out 0; have hcz2_BK1_1 : w1_.cell? ⟨gb1_, 1, none⟩ = some (.slice A1_1 l1_1.length c1_1) := (blk_cell BK1.out 1).trans rfl; have hfz2_BK1_1 := blk_frozen BK1.out 1; have hcz2_BK1_2 : w1_.cell? ⟨gb1_, 2, none⟩ = some (.slice A1_2 l1_2.length c1_2) := (blk_cell BK1.out 2).trans rfl; have hfz2_BK1_2 := blk_frozen BK1.out 2)
  | ((with_reducible refine gate_callee (f := 5) rfl ?_); refine goesL_ (some 16) rfl rfl Tryz.func5 kf rfl #[.slice A0 l0.length c0, .int .i64 1000000] rfl sm ?_; (with_reducible refine (laws_szTermS.calls _ _ l0 1000000 s0 _ ?side1 ?side2 HSZ0.out).mono ?_); (case side1 => repeat (first | exact HR0.out | exact (Kd.C_below HR0.out bz) | (with_reducible refine Kd.C_alloc ?_ _) | (with_reducible refine Kd.C_drewN ?_ _) | (with_reducible refine Kd.C_drew ?_))); (case side2 => exact HC0.out); rintro e w' ⟨rfl, ⟨nd, rfl⟩⟩; refine ⟨_, rfl, ?_⟩)
  | ((with_reducible refine gate_callee (f := 6) rfl ?_); refine goesL_ (some 21) rfl rfl Tryz.func6 kf rfl #[.agg #[.int .i64 a1, .slice A1_1 l1_1.length c1_1, .slice A1_2 l1_2.length c1_2], .int .i64 s0] rfl sm ?_; (with_reducible refine (laws_szBox.calls a1 _ _ l1_1 _ _ l1_2 s0 s1 _ ?side1 ?side2 ?side3 ?side4 HSZ1.out).mono ?_); (case side1 => repeat (first | exact HR1_1.out | exact (Kd.C_below HR1_1.out bz) | (with_reducible refine Kd.C_alloc ?_ _) | (with_reducible refine Kd.C_drewN ?_ _) | (with_reducible refine Kd.C_drew ?_))); (case side2 => exact HC1_1.out); (case side3 => repeat (first | exact HR1_2.out | exact (Kd.C_below HR1_2.out bz) | (with_reducible refine Kd.C_alloc ?_ _) | (with_reducible refine Kd.C_drewN ?_ _) | (with_reducible refine Kd.C_drew ?_))); (case side4 => exact HC1_2.out); rintro e w3_ ⟨rfl, hb⟩; refine ⟨_, rfl, ?_⟩; obtain ⟨z2_, z4_⟩ := still (by exact Z.out) bz hb; have nBK1_ := bb BK1 hb; clear BK1 HB Z; have BK1 := nBK1_; clear nBK1_; have HB := Aside0.mk z4_; have Z := Aside0.mk z2_; clear z2_ z4_ hb; (try clear hcz2_BK1_0 hfz2_BK1_0 hcz2_BK1_1 hfz2_BK1_1 hcz2_BK1_2 hfz2_BK1_2); have hcz4_BK1_0 : w3_.cell? ⟨gb1_, 0, none⟩ = some (.int .i64 a1) := (blk_cell BK1.out 0).trans rfl; have hfz4_BK1_0 := blk_frozen BK1.out 0; have hcz4_BK1_1 : w3_.cell? ⟨gb1_, 1, none⟩ = some (.slice A1_1 l1_1.length c1_1) := (blk_cell BK1.out 1).trans rfl; have hfz4_BK1_1 := blk_frozen BK1.out 1; have hcz4_BK1_2 : w3_.cell? ⟨gb1_, 2, none⟩ = some (.slice A1_2 l1_2.length c1_2) := (blk_cell BK1.out 2).trans rfl; have hfz4_BK1_2 := blk_frozen BK1.out 2))
 try go_wp2
 refine start_ (n := 11) (S := fun w' => w'.cell? ⟨gb1_, 0, none⟩ = some (.int .i64 a1) ∧ w'.cell? ⟨gb1_, 1, none⟩ = some (.slice A1_1 l1_1.length c1_1) ∧ w'.cell? ⟨gb1_, 2, none⟩ = some (.slice A1_2 l1_2.length c1_2)) (ds := []) #[fF, fF, fF, fF, fF, fF, fF, fF, fF, fF, fF] kf rfl rfl ⟨((blk_cell (g := gb1_) (cs := #[.int .i64 a1, .slice A1_1 l1_1.length c1_1, .slice A1_2 l1_2.length c1_2]) (t := 25) (bk BK1) 0).trans rfl), ((blk_cell (g := gb1_) (cs := #[.int .i64 a1, .slice A1_1 l1_1.length c1_1, .slice A1_2 l1_2.length c1_2]) (t := 25) (bk BK1) 1).trans rfl), ((blk_cell (g := gb1_) (cs := #[.int .i64 a1, .slice A1_1 l1_1.length c1_1, .slice A1_2 l1_2.length c1_2]) (t := 25) (bk BK1) 2).trans rfl)⟩ (fun hHeld => ?_); refine with_tabW law.tab8 law.bits8 (fun HT_ HW_ => ?_)
 generalize hq_ : World.drew _ = w5_ at hHeld ⊢
 have nBK1_ : Aside0 (w5_.heap[gb1_]? = some (.cells #[.int .i64 a1, .slice A1_1 l1_1.length c1_1, .slice A1_2 l1_2.length c1_2] 25 (0, 0))) := ⟨by rw [← hq_]; exact (bk BK1)⟩
 have nHB_ : Aside0 (Below w.heap.size w w5_) := ⟨by rw [← hq_]; exact bz⟩
 have nZ_ : Aside0 ((gb1_ + 1) ≤ w5_.heap.size) := ⟨by rw [← hq_]; exact (by exact Z.out)⟩
 clear hq_ BK1 HB Z
 have BK1 := nBK1_
 have HB := nHB_
 have Z := nZ_
 clear nBK1_ nHB_ nZ_
 refine pq (i := 0) (N := some 25) #[tT, fF, fF, fF, fF, fF, fF, fF, fF, fF, fF] rfl rfl HT_.out ?_
 refine tq3 (i := 2) (N := some 27) #[tT, fF, tT, fF, fF, fF, fF, fF, fF, fF, fF] rfl rfl HT_.out HW_.out hHeld ?_
 refine join_ (σ := Value × Value × Nat) 2 #[tT, tT, tT, tT, tT, tT, tT, tT, tT, fF, fF] (fun s_ => [(26, s_.1), (28, s_.2.1), (29, .tuple #[.agg #[.int .i64 r1_0, .int .i64 r1_1, .int .i64 r1_2, .int .i64 r1_3], .bool r2]), (6, .pointer (some ⟨s_.2.2, 0, none⟩)), (24, .tuple #[.agg #[.int .i64 r1_0, .int .i64 r1_1, .int .i64 r1_2, .int .i64 r1_3], .bool r2]), (30, .agg #[.int .i64 r1_0, .int .i64 r1_1, .int .i64 r1_2, .int .i64 r1_3]), (31, .bool r2)]) (fun s_ w' => w'.cell? ⟨gb1_, 0, none⟩ = some (.int .i64 a1) ∧ w'.cell? ⟨gb1_, 1, none⟩ = some (.slice A1_1 l1_1.length c1_1) ∧ w'.cell? ⟨gb1_, 2, none⟩ = some (.slice A1_2 l1_2.length c1_2) ∧ w'.heap[gb1_]? = some (.cells #[.int .i64 a1, .slice A1_1 l1_1.length c1_1, .slice A1_2 l1_2.length c1_2] 25 (0, 0)) ∧ w'.heap[s_.2.2]? = some (.cells #[.int .i64 0, .int .i64 0, .int .i64 0, .int .i64 0] 31 (0, 0)) ∧ (gb1_ + 1) ≤ s_.2.2 ∧ w.heap.size ≤ s_.2.2 ∧ gb1_ ≠ s_.2.2 ∧ Below w.heap.size w w' ∧ s_.2.2 + 1 ≤ w'.heap.size) ?_ ?_
 rotate_left
 ·intro hCont
  refine two_ (i := 1) (j := 8) (Ni := some 26) (Nj := some 6) #[tT, tT, tT, fF, fF, fF, fF, fF, fF, fF, fF] #[tT, fF, tT, fF, fF, fF, fF, fF, tT, fF, fF] rfl rfl rfl rfl (two_of HT_.out kf) (by decide) (by decide) (fun K hK => ?_) (fun K hK => ?_)
  ·skip
   refine goes_ Tryz.func8 kf rfl #[.slice A0 l0.length c0, .bool false] (by rfl) rfl rfl sm ?_
   (with_reducible refine (toTermS_pad kw0 _ _ l0 q0 P0 _ ?side1 ?side2 HW0.out HQL0.out).mono ?_)
   (case side1 => repeat (first | exact HR0.out | exact (Kd.C_below HR0.out bz) | (with_reducible refine Kd.C_alloc ?_ _) | (with_reducible refine Kd.C_drewN ?_ _) | (with_reducible refine Kd.C_drew ?_)))
   (case side2 => exact HC0.out)
   rintro e w16_ ⟨A16_, c16_, rfl, ho0, hb⟩
   refine ⟨_, rfl, ?_⟩
   obtain ⟨a16_0_, b16_0_, z1_, z2_, zo0_, z4_⟩ := made (by exact Z.out) bz hb ho0
   have nBK1_ := bb BK1 hb
   clear BK1 HB Z
   have BK1 := nBK1_
   clear nBK1_
   have O16_0 := Aside0.mk zo0_
   have Q16_0 := Aside0.mk z1_
   have HB := Aside0.mk z4_
   have Z := Aside0.mk z2_
   clear z1_ z2_ z4_ hb ho0 zo0_
   (try clear hcz4_BK1_0 hfz4_BK1_0 hcz4_BK1_1 hfz4_BK1_1 hcz4_BK1_2 hfz4_BK1_2)
   have hcz17_BK1_0 : w16_.cell? ⟨gb1_, 0, none⟩ = some (.int .i64 a1) := (blk_cell BK1.out 0).trans rfl
   have hfz17_BK1_0 := blk_frozen BK1.out 0
   have hcz17_BK1_1 : w16_.cell? ⟨gb1_, 1, none⟩ = some (.slice A1_1 l1_1.length c1_1) := (blk_cell BK1.out 1).trans rfl
   have hfz17_BK1_1 := blk_frozen BK1.out 1
   have hcz17_BK1_2 : w16_.cell? ⟨gb1_, 2, none⟩ = some (.slice A1_2 l1_2.length c1_2) := (blk_cell BK1.out 2).trans rfl
   have hfz17_BK1_2 := blk_frozen BK1.out 2
   refine hK.out _ _ ⟨((blk_cell BK1.out 0).trans rfl), ((blk_cell BK1.out 1).trans rfl), ((blk_cell BK1.out 2).trans rfl)⟩ (fun hHeld => ?_)
   clear hK K
   refine norm_ (a' := ?_) ?_ ?_
   rotate_left
   ·show Act.put _ (some 26) _ = _
    simp only [Act.put, List.setIfInBounds_toArray, List.set_cons_zero, List.set_cons_succ, i64_w, i32_w]
    rfl
   refine two_ (i := 3) (j := 8) (Ni := some 28) (Nj := some 6) #[tT, tT, tT, tT, fF, fF, fF, fF, fF, fF, fF] #[tT, tT, tT, fF, fF, fF, fF, fF, tT, fF, fF] rfl rfl rfl rfl (two_of HT_.out kf) (by decide) (by decide) (fun K hK => ?_) (fun K hK => ?_)
   ·skip
    refine goes_ Tryz.func9 kf rfl #[.agg #[.int .i64 a1, .slice A1_1 l1_1.length c1_1, .slice A1_2 l1_2.length c1_2], .bool false] (by rfl) rfl rfl sm ?_
    (with_reducible refine (toBox_pad a1 _ _ l1_1 _ _ l1_2 _ ?side1 ?side2 ?side3 ?side4 HN1_1.out HN1_2.out).mono ?_)
    (case side1 => repeat (first | exact HR1_1.out | exact (Kd.C_below HR1_1.out bz) | (with_reducible refine Kd.C_alloc ?_ _) | (with_reducible refine Kd.C_drewN ?_ _) | (with_reducible refine Kd.C_drew ?_)))
    (case side2 => exact HC1_1.out)
    (case side3 => repeat (first | exact HR1_2.out | exact (Kd.C_below HR1_2.out bz) | (with_reducible refine Kd.C_alloc ?_ _) | (with_reducible refine Kd.C_drewN ?_ _) | (with_reducible refine Kd.C_drew ?_)))
    (case side4 => exact HC1_2.out)
    rintro e w18_ ⟨g18_0_, g18_1_, rfl, ho0, ho1, hb⟩
    refine ⟨_, rfl, ?_⟩
    have NGg18_0_ : Aside0 (g18_0_ ≠ g18_1_) := ⟨ho0.1 _ rfl⟩
    replace ho0 := Kd.R_mono ho0 (fun _ _ => True.intro)
    replace ho1 := Kd.R_mono ho1 (fun _ _ => True.intro)
    obtain ⟨a18_1_, b18_1_, z1_, z2_, zo0_, zo1_, z4_⟩ := made2 (by exact Z.out) bz hb ho0 ho1
    have nO16_0_ := Aside0.mk (Kd.R_below (kr O16_0) hb)
    have nBK1_ := bb BK1 hb
    clear O16_0 BK1 HB Z
    have O16_0 := nO16_0_
    have BK1 := nBK1_
    clear nO16_0_ nBK1_
    have O18_0 := Aside0.mk zo0_
    have O18_1 := Aside0.mk zo1_
    have Q18_1 := Aside0.mk z1_
    have HB := Aside0.mk z4_
    have Z := Aside0.mk z2_
    clear z1_ z2_ z4_ hb ho0 zo0_ ho1 zo1_
    (try clear hcz17_BK1_0 hfz17_BK1_0 hcz17_BK1_1 hfz17_BK1_1 hcz17_BK1_2 hfz17_BK1_2)
    have hcz19_BK1_0 : w18_.cell? ⟨gb1_, 0, none⟩ = some (.int .i64 a1) := (blk_cell BK1.out 0).trans rfl
    have hfz19_BK1_0 := blk_frozen BK1.out 0
    have hcz19_BK1_1 : w18_.cell? ⟨gb1_, 1, none⟩ = some (.slice A1_1 l1_1.length c1_1) := (blk_cell BK1.out 1).trans rfl
    have hfz19_BK1_1 := blk_frozen BK1.out 1
    have hcz19_BK1_2 : w18_.cell? ⟨gb1_, 2, none⟩ = some (.slice A1_2 l1_2.length c1_2) := (blk_cell BK1.out 2).trans rfl
    have hfz19_BK1_2 := blk_frozen BK1.out 2
    refine hK.out _ _ ⟨((blk_cell BK1.out 0).trans rfl), ((blk_cell BK1.out 1).trans rfl), ((blk_cell BK1.out 2).trans rfl)⟩ (fun hHeld => ?_)
    clear hK K
    refine norm_ (a' := ?_) ?_ ?_
    rotate_left
    ·show Act.put _ (some 28) _ = _
     simp only [Act.put, List.setIfInBounds_toArray, List.set_cons_zero, List.set_cons_succ, i64_w, i32_w]
     rfl
    refine two_ (i := 4) (j := 8) (Ni := some 29) (Nj := some 6) #[tT, tT, tT, tT, tT, fF, fF, fF, fF, fF, fF] #[tT, tT, tT, tT, fF, fF, fF, fF, tT, fF, fF] rfl rfl rfl rfl (two_of HT_.out kf) (by decide) (by decide) (fun K hK => ?_) (fun K hK => ?_)
    ·skip
     refine goes_ Tryz.func7 kf rfl #[.slice A16_ q0.length c16_, .agg #[.int .i64 a1, .slice (some ⟨g18_0_, 0, none⟩) l1_1.length (pad l1_1).length, .slice (some ⟨g18_1_, 0, none⟩) l1_2.length (pad l1_2).length]] (by rfl) rfl rfl sm ?_
     (with_reducible refine (spec_ValueOver.calls ks _ _ q0 a1 _ _ l1_1 _ _ l1_2 r1_0 r1_1 r1_2 r1_3 r2 _ ?side1 ?side2 ?side3 ?side4 ?side5 ?side6 HS.out).mono ?_)
     (case side1 => repeat (first | exact padr HP0.out O16_0.out | (with_reducible refine Kd.C_alloc ?_ _) | (with_reducible refine Kd.C_drewN ?_ _) | (with_reducible refine Kd.C_drew ?_)))
     (case side2 => exact padl HP0.out (Kd.R_reads' O16_0.out).2.1)
     (case side3 => repeat (first | exact pad_reads O18_0.out | (with_reducible refine Kd.C_alloc ?_ _) | (with_reducible refine Kd.C_drewN ?_ _) | (with_reducible refine Kd.C_drew ?_)))
     (case side4 => exact pad_le _)
     (case side5 => repeat (first | exact pad_reads O18_1.out | (with_reducible refine Kd.C_alloc ?_ _) | (with_reducible refine Kd.C_drewN ?_ _) | (with_reducible refine Kd.C_drew ?_)))
     (case side6 => exact pad_le _)
     rintro e w20_ ⟨rfl, hb⟩
     refine ⟨_, rfl, ?_⟩
     obtain ⟨z2_, z4_⟩ := still (by exact Z.out) bz hb
     have nO16_0_ := Aside0.mk (Kd.R_below (kr O16_0) hb)
     have nO18_0_ := Aside0.mk (Kd.R_below (kr O18_0) hb)
     have nO18_1_ := Aside0.mk (Kd.R_below (kr O18_1) hb)
     have nBK1_ := bb BK1 hb
     clear O16_0 O18_0 O18_1 BK1 HB Z
     have O16_0 := nO16_0_
     have O18_0 := nO18_0_
     have O18_1 := nO18_1_
     have BK1 := nBK1_
     clear nO16_0_ nO18_0_ nO18_1_ nBK1_
     have HB := Aside0.mk z4_
     have Z := Aside0.mk z2_
     clear z2_ z4_ hb
     (try clear hcz19_BK1_0 hfz19_BK1_0 hcz19_BK1_1 hfz19_BK1_1 hcz19_BK1_2 hfz19_BK1_2)
     have hcz21_BK1_0 : w20_.cell? ⟨gb1_, 0, none⟩ = some (.int .i64 a1) := (blk_cell BK1.out 0).trans rfl
     have hfz21_BK1_0 := blk_frozen BK1.out 0
     have hcz21_BK1_1 : w20_.cell? ⟨gb1_, 1, none⟩ = some (.slice A1_1 l1_1.length c1_1) := (blk_cell BK1.out 1).trans rfl
     have hfz21_BK1_1 := blk_frozen BK1.out 1
     have hcz21_BK1_2 : w20_.cell? ⟨gb1_, 2, none⟩ = some (.slice A1_2 l1_2.length c1_2) := (blk_cell BK1.out 2).trans rfl
     have hfz21_BK1_2 := blk_frozen BK1.out 2
     refine hK.out _ _ ⟨((blk_cell BK1.out 0).trans rfl), ((blk_cell BK1.out 1).trans rfl), ((blk_cell BK1.out 2).trans rfl)⟩ (fun hHeld => ?_)
     clear hK K
     refine norm_ (a' := ?_) ?_ ?_
     rotate_left
     ·show Act.put _ (some 29) _ = _
      simp only [Act.put, List.setIfInBounds_toArray, List.set_cons_zero, List.set_cons_succ, i64_w, i32_w]
      rfl
     refine pq (i := 5) (N := some 24) #[tT, tT, tT, tT, tT, tT, fF, fF, fF, fF, fF] rfl rfl HT_.out ?_
     refine pq (i := 6) (N := some 30) #[tT, tT, tT, tT, tT, tT, tT, fF, fF, fF, fF] rfl rfl HT_.out ?_
     refine pq (i := 7) (N := some 31) #[tT, tT, tT, tT, tT, tT, tT, tT, fF, fF, fF] rfl rfl HT_.out ?_
     refine one_ (i := 8) (N := some 6) #[tT, tT, tT, tT, tT, tT, tT, tT, tT, fF, fF] rfl rfl (one_of HT_.out kf) (by decide) (fun K hK => ?_)
     refine box_draw (N := 6) (cs := #[.int .i64 0, .int .i64 0, .int .i64 0, .int .i64 0]) (t := 31) (by rfl) rfl ?hr ?_
     (case hr => first | (go_simp; done) | (go_simp; rfl))
     intro gb22_ hg w22_ hbox hb
     obtain ⟨z2_, z4_⟩ := still (by exact Z.out) bz hb
     have GB22 : Aside0 (b18_1_ ≤ gb22_) := ⟨by rw [hg]; exact Z.out⟩
     have GE22 : Aside0 (w.heap.size ≤ gb22_) := ⟨by rw [hg]; exact (below_size bz)⟩
     have NBBK1_22 : Aside0 (gb1_ ≠ gb22_) := ⟨by rw [hg]; exact Nat.ne_of_lt (blk_lt (w := _) (o := .cells #[.int .i64 a1, .slice A1_1 l1_1.length c1_1, .slice A1_2 l1_2.length c1_2] 25 (0, 0)) (bk BK1))⟩
     have nO16_0_ := Aside0.mk (Kd.R_below (kr O16_0) hb)
     have nO18_0_ := Aside0.mk (Kd.R_below (kr O18_0) hb)
     have nO18_1_ := Aside0.mk (Kd.R_below (kr O18_1) hb)
     have nBK1_ := bb BK1 hb
     have BK22 := Aside0.mk hbox
     clear O16_0 O18_0 O18_1 BK1 HB Z
     have O16_0 := nO16_0_
     have O18_0 := nO18_0_
     have O18_1 := nO18_1_
     have BK1 := nBK1_
     clear nO16_0_ nO18_0_ nO18_1_ nBK1_
     have zb_ : gb22_ + 1 ≤ w22_.heap.size := blk_lt BK22.out
     have HB := Aside0.mk z4_
     have Z := Aside0.mk zb_
     clear z2_ z4_ zb_ hb hg hbox
     (try clear hcz21_BK1_0 hfz21_BK1_0 hcz21_BK1_1 hfz21_BK1_1 hcz21_BK1_2 hfz21_BK1_2)
     have hcz23_BK1_0 : w22_.cell? ⟨gb1_, 0, none⟩ = some (.int .i64 a1) := (blk_cell BK1.out 0).trans rfl
     have hfz23_BK1_0 := blk_frozen BK1.out 0
     have hcz23_BK1_1 : w22_.cell? ⟨gb1_, 1, none⟩ = some (.slice A1_1 l1_1.length c1_1) := (blk_cell BK1.out 1).trans rfl
     have hfz23_BK1_1 := blk_frozen BK1.out 1
     have hcz23_BK1_2 : w22_.cell? ⟨gb1_, 2, none⟩ = some (.slice A1_2 l1_2.length c1_2) := (blk_cell BK1.out 2).trans rfl
     have hfz23_BK1_2 := blk_frozen BK1.out 2
     have hcz23_BK22_0 : w22_.cell? ⟨gb22_, 0, none⟩ = some (.int .i64 0) := (blk_cell BK22.out 0).trans rfl
     have hfz23_BK22_0 := blk_frozen BK22.out 0
     have hcz23_BK22_1 : w22_.cell? ⟨gb22_, 1, none⟩ = some (.int .i64 0) := (blk_cell BK22.out 1).trans rfl
     have hfz23_BK22_1 := blk_frozen BK22.out 1
     have hcz23_BK22_2 : w22_.cell? ⟨gb22_, 2, none⟩ = some (.int .i64 0) := (blk_cell BK22.out 2).trans rfl
     have hfz23_BK22_2 := blk_frozen BK22.out 2
     have hcz23_BK22_3 : w22_.cell? ⟨gb22_, 3, none⟩ = some (.int .i64 0) := (blk_cell BK22.out 3).trans rfl
     have hfz23_BK22_3 := blk_frozen BK22.out 3
     refine hK.out _ _ ⟨((blk_cell BK1.out 0).trans rfl), ((blk_cell BK1.out 1).trans rfl), ((blk_cell BK1.out 2).trans rfl)⟩ (fun hHeld => ?_)
     clear hK K
     refine norm_ (a' := ?_) ?_ ?_
     rotate_left
     ·show Act.put _ (some 6) _ = _
      simp only [Act.put, List.setIfInBounds_toArray, List.set_cons_zero, List.set_cons_succ, i64_w, i32_w]
      rfl
     exact norm_ (by simp only [putAll, Act.put, List.setIfInBounds_toArray, List.set_cons_zero, List.set_cons_succ]) (hCont ((.slice A16_ q0.length c16_ : Value), (.agg #[.int .i64 a1, .slice (some ⟨g18_0_, 0, none⟩) l1_1.length (pad l1_1).length, .slice (some ⟨g18_1_, 0, none⟩) l1_2.length (pad l1_2).length] : Value), (gb22_ : Nat)) _ ⟨((blk_cell BK1.out 0).trans rfl), ((blk_cell BK1.out 1).trans rfl), ((blk_cell BK1.out 2).trans rfl), BK1.out, BK22.out, (show (gb1_ + 1) ≤ gb22_ from by have := GB22.out; have := GB1.out; have := Q16_0.out; have := Q18_1.out; have := GB22.out; omega), GE22.out, NBBK1_22.out, HB.out, (blk_lt BK22.out)⟩)
    ·skip
     refine box_draw (N := 6) (cs := #[.int .i64 0, .int .i64 0, .int .i64 0, .int .i64 0]) (t := 31) (by rfl) rfl ?hr ?_
     (case hr => first | (go_simp; done) | (go_simp; rfl))
     intro gb24_ hg w24_ hbox hb
     obtain ⟨z2_, z4_⟩ := still (by exact Z.out) bz hb
     have GB24 : Aside0 (b18_1_ ≤ gb24_) := ⟨by rw [hg]; exact Z.out⟩
     have GE24 : Aside0 (w.heap.size ≤ gb24_) := ⟨by rw [hg]; exact (below_size bz)⟩
     have NBBK1_24 : Aside0 (gb1_ ≠ gb24_) := ⟨by rw [hg]; exact Nat.ne_of_lt (blk_lt (w := _) (o := .cells #[.int .i64 a1, .slice A1_1 l1_1.length c1_1, .slice A1_2 l1_2.length c1_2] 25 (0, 0)) (bk BK1))⟩
     have nO16_0_ := Aside0.mk (Kd.R_below (kr O16_0) hb)
     have nO18_0_ := Aside0.mk (Kd.R_below (kr O18_0) hb)
     have nO18_1_ := Aside0.mk (Kd.R_below (kr O18_1) hb)
     have nBK1_ := bb BK1 hb
     have BK24 := Aside0.mk hbox
     clear O16_0 O18_0 O18_1 BK1 HB Z
     have O16_0 := nO16_0_
     have O18_0 := nO18_0_
     have O18_1 := nO18_1_
     have BK1 := nBK1_
     clear nO16_0_ nO18_0_ nO18_1_ nBK1_
     have zb_ : gb24_ + 1 ≤ w24_.heap.size := blk_lt BK24.out
     have HB := Aside0.mk z4_
     have Z := Aside0.mk zb_
     clear z2_ z4_ zb_ hb hg hbox
     (try clear hcz19_BK1_0 hfz19_BK1_0 hcz19_BK1_1 hfz19_BK1_1 hcz19_BK1_2 hfz19_BK1_2)
     have hcz25_BK1_0 : w24_.cell? ⟨gb1_, 0, none⟩ = some (.int .i64 a1) := (blk_cell BK1.out 0).trans rfl
     have hfz25_BK1_0 := blk_frozen BK1.out 0
     have hcz25_BK1_1 : w24_.cell? ⟨gb1_, 1, none⟩ = some (.slice A1_1 l1_1.length c1_1) := (blk_cell BK1.out 1).trans rfl
     have hfz25_BK1_1 := blk_frozen BK1.out 1
     have hcz25_BK1_2 : w24_.cell? ⟨gb1_, 2, none⟩ = some (.slice A1_2 l1_2.length c1_2) := (blk_cell BK1.out 2).trans rfl
     have hfz25_BK1_2 := blk_frozen BK1.out 2
     have hcz25_BK24_0 : w24_.cell? ⟨gb24_, 0, none⟩ = some (.int .i64 0) := (blk_cell BK24.out 0).trans rfl
     have hfz25_BK24_0 := blk_frozen BK24.out 0
     have hcz25_BK24_1 : w24_.cell? ⟨gb24_, 1, none⟩ = some (.int .i64 0) := (blk_cell BK24.out 1).trans rfl
     have hfz25_BK24_1 := blk_frozen BK24.out 1
     have hcz25_BK24_2 : w24_.cell? ⟨gb24_, 2, none⟩ = some (.int .i64 0) := (blk_cell BK24.out 2).trans rfl
     have hfz25_BK24_2 := blk_frozen BK24.out 2
     have hcz25_BK24_3 : w24_.cell? ⟨gb24_, 3, none⟩ = some (.int .i64 0) := (blk_cell BK24.out 3).trans rfl
     have hfz25_BK24_3 := blk_frozen BK24.out 3
     refine hK.out _ _ ⟨((blk_cell BK1.out 0).trans rfl), ((blk_cell BK1.out 1).trans rfl), ((blk_cell BK1.out 2).trans rfl)⟩ (fun hHeld => ?_)
     clear hK K
     refine norm_ (a' := ?_) ?_ ?_
     rotate_left
     ·show Act.put _ (some 6) _ = _
      simp only [Act.put, List.setIfInBounds_toArray, List.set_cons_zero, List.set_cons_succ, i64_w, i32_w]
      rfl
     refine one_ (i := 4) (N := some 29) #[tT, tT, tT, tT, tT, fF, fF, fF, tT, fF, fF] rfl rfl (one_of HT_.out kf) (by decide) (fun K hK => ?_)
     refine goes_ Tryz.func7 kf rfl #[.slice A16_ q0.length c16_, .agg #[.int .i64 a1, .slice (some ⟨g18_0_, 0, none⟩) l1_1.length (pad l1_1).length, .slice (some ⟨g18_1_, 0, none⟩) l1_2.length (pad l1_2).length]] (by rfl) rfl rfl sm ?_
     (with_reducible refine (spec_ValueOver.calls ks _ _ q0 a1 _ _ l1_1 _ _ l1_2 r1_0 r1_1 r1_2 r1_3 r2 _ ?side1 ?side2 ?side3 ?side4 ?side5 ?side6 HS.out).mono ?_)
     (case side1 => repeat (first | exact padr HP0.out O16_0.out | (with_reducible refine Kd.C_alloc ?_ _) | (with_reducible refine Kd.C_drewN ?_ _) | (with_reducible refine Kd.C_drew ?_)))
     (case side2 => exact padl HP0.out (Kd.R_reads' O16_0.out).2.1)
     (case side3 => repeat (first | exact pad_reads O18_0.out | (with_reducible refine Kd.C_alloc ?_ _) | (with_reducible refine Kd.C_drewN ?_ _) | (with_reducible refine Kd.C_drew ?_)))
     (case side4 => exact pad_le _)
     (case side5 => repeat (first | exact pad_reads O18_1.out | (with_reducible refine Kd.C_alloc ?_ _) | (with_reducible refine Kd.C_drewN ?_ _) | (with_reducible refine Kd.C_drew ?_)))
     (case side6 => exact pad_le _)
     rintro e w26_ ⟨rfl, hb⟩
     refine ⟨_, rfl, ?_⟩
     obtain ⟨z2_, z4_⟩ := still (by exact Z.out) bz hb
     have nO16_0_ := Aside0.mk (Kd.R_below (kr O16_0) hb)
     have nO18_0_ := Aside0.mk (Kd.R_below (kr O18_0) hb)
     have nO18_1_ := Aside0.mk (Kd.R_below (kr O18_1) hb)
     have nBK1_ := bb BK1 hb
     have nBK24_ := bb BK24 hb
     clear O16_0 O18_0 O18_1 BK1 BK24 HB Z
     have O16_0 := nO16_0_
     have O18_0 := nO18_0_
     have O18_1 := nO18_1_
     have BK1 := nBK1_
     have BK24 := nBK24_
     clear nO16_0_ nO18_0_ nO18_1_ nBK1_ nBK24_
     have HB := Aside0.mk z4_
     have Z := Aside0.mk z2_
     clear z2_ z4_ hb
     (try clear hcz25_BK1_0 hfz25_BK1_0 hcz25_BK1_1 hfz25_BK1_1 hcz25_BK1_2 hfz25_BK1_2 hcz25_BK24_0 hfz25_BK24_0 hcz25_BK24_1 hfz25_BK24_1 hcz25_BK24_2 hfz25_BK24_2 hcz25_BK24_3 hfz25_BK24_3)
     have hcz27_BK1_0 : w26_.cell? ⟨gb1_, 0, none⟩ = some (.int .i64 a1) := (blk_cell BK1.out 0).trans rfl
     have hfz27_BK1_0 := blk_frozen BK1.out 0
     have hcz27_BK1_1 : w26_.cell? ⟨gb1_, 1, none⟩ = some (.slice A1_1 l1_1.length c1_1) := (blk_cell BK1.out 1).trans rfl
     have hfz27_BK1_1 := blk_frozen BK1.out 1
     have hcz27_BK1_2 : w26_.cell? ⟨gb1_, 2, none⟩ = some (.slice A1_2 l1_2.length c1_2) := (blk_cell BK1.out 2).trans rfl
     have hfz27_BK1_2 := blk_frozen BK1.out 2
     have hcz27_BK24_0 : w26_.cell? ⟨gb24_, 0, none⟩ = some (.int .i64 0) := (blk_cell BK24.out 0).trans rfl
     have hfz27_BK24_0 := blk_frozen BK24.out 0
     have hcz27_BK24_1 : w26_.cell? ⟨gb24_, 1, none⟩ = some (.int .i64 0) := (blk_cell BK24.out 1).trans rfl
     have hfz27_BK24_1 := blk_frozen BK24.out 1
     have hcz27_BK24_2 : w26_.cell? ⟨gb24_, 2, none⟩ = some (.int .i64 0) := (blk_cell BK24.out 2).trans rfl
     have hfz27_BK24_2 := blk_frozen BK24.out 2
     have hcz27_BK24_3 : w26_.cell? ⟨gb24_, 3, none⟩ = some (.int .i64 0) := (blk_cell BK24.out 3).trans rfl
     have hfz27_BK24_3 := blk_frozen BK24.out 3
     refine hK.out _ _ ⟨((blk_cell BK1.out 0).trans rfl), ((blk_cell BK1.out 1).trans rfl), ((blk_cell BK1.out 2).trans rfl)⟩ (fun hHeld => ?_)
     clear hK K
     refine norm_ (a' := ?_) ?_ ?_
     rotate_left
     ·show Act.put _ (some 29) _ = _
      simp only [Act.put, List.setIfInBounds_toArray, List.set_cons_zero, List.set_cons_succ, i64_w, i32_w]
      rfl
     refine pq (i := 5) (N := some 24) #[tT, tT, tT, tT, tT, tT, fF, fF, tT, fF, fF] rfl rfl HT_.out ?_
     refine pq (i := 6) (N := some 30) #[tT, tT, tT, tT, tT, tT, tT, fF, tT, fF, fF] rfl rfl HT_.out ?_
     refine pq (i := 7) (N := some 31) #[tT, tT, tT, tT, tT, tT, tT, tT, tT, fF, fF] rfl rfl HT_.out ?_
     exact norm_ (by simp only [putAll, Act.put, List.setIfInBounds_toArray, List.set_cons_zero, List.set_cons_succ]) (hCont ((.slice A16_ q0.length c16_ : Value), (.agg #[.int .i64 a1, .slice (some ⟨g18_0_, 0, none⟩) l1_1.length (pad l1_1).length, .slice (some ⟨g18_1_, 0, none⟩) l1_2.length (pad l1_2).length] : Value), (gb24_ : Nat)) _ ⟨((blk_cell BK1.out 0).trans rfl), ((blk_cell BK1.out 1).trans rfl), ((blk_cell BK1.out 2).trans rfl), BK1.out, BK24.out, (show (gb1_ + 1) ≤ gb24_ from by have := GB24.out; have := GB1.out; have := Q16_0.out; have := Q18_1.out; have := GB24.out; omega), GE24.out, NBBK1_24.out, HB.out, (blk_lt BK24.out)⟩)
   ·skip
    refine box_draw (N := 6) (cs := #[.int .i64 0, .int .i64 0, .int .i64 0, .int .i64 0]) (t := 31) (by rfl) rfl ?hr ?_
    (case hr => first | (go_simp; done) | (go_simp; rfl))
    intro gb28_ hg w28_ hbox hb
    obtain ⟨z2_, z4_⟩ := still (by exact Z.out) bz hb
    have GB28 : Aside0 (b16_0_ ≤ gb28_) := ⟨by rw [hg]; exact Z.out⟩
    have GE28 : Aside0 (w.heap.size ≤ gb28_) := ⟨by rw [hg]; exact (below_size bz)⟩
    have NBBK1_28 : Aside0 (gb1_ ≠ gb28_) := ⟨by rw [hg]; exact Nat.ne_of_lt (blk_lt (w := _) (o := .cells #[.int .i64 a1, .slice A1_1 l1_1.length c1_1, .slice A1_2 l1_2.length c1_2] 25 (0, 0)) (bk BK1))⟩
    have nO16_0_ := Aside0.mk (Kd.R_below (kr O16_0) hb)
    have nBK1_ := bb BK1 hb
    have BK28 := Aside0.mk hbox
    clear O16_0 BK1 HB Z
    have O16_0 := nO16_0_
    have BK1 := nBK1_
    clear nO16_0_ nBK1_
    have zb_ : gb28_ + 1 ≤ w28_.heap.size := blk_lt BK28.out
    have HB := Aside0.mk z4_
    have Z := Aside0.mk zb_
    clear z2_ z4_ zb_ hb hg hbox
    (try clear hcz17_BK1_0 hfz17_BK1_0 hcz17_BK1_1 hfz17_BK1_1 hcz17_BK1_2 hfz17_BK1_2)
    have hcz29_BK1_0 : w28_.cell? ⟨gb1_, 0, none⟩ = some (.int .i64 a1) := (blk_cell BK1.out 0).trans rfl
    have hfz29_BK1_0 := blk_frozen BK1.out 0
    have hcz29_BK1_1 : w28_.cell? ⟨gb1_, 1, none⟩ = some (.slice A1_1 l1_1.length c1_1) := (blk_cell BK1.out 1).trans rfl
    have hfz29_BK1_1 := blk_frozen BK1.out 1
    have hcz29_BK1_2 : w28_.cell? ⟨gb1_, 2, none⟩ = some (.slice A1_2 l1_2.length c1_2) := (blk_cell BK1.out 2).trans rfl
    have hfz29_BK1_2 := blk_frozen BK1.out 2
    have hcz29_BK28_0 : w28_.cell? ⟨gb28_, 0, none⟩ = some (.int .i64 0) := (blk_cell BK28.out 0).trans rfl
    have hfz29_BK28_0 := blk_frozen BK28.out 0
    have hcz29_BK28_1 : w28_.cell? ⟨gb28_, 1, none⟩ = some (.int .i64 0) := (blk_cell BK28.out 1).trans rfl
    have hfz29_BK28_1 := blk_frozen BK28.out 1
    have hcz29_BK28_2 : w28_.cell? ⟨gb28_, 2, none⟩ = some (.int .i64 0) := (blk_cell BK28.out 2).trans rfl
    have hfz29_BK28_2 := blk_frozen BK28.out 2
    have hcz29_BK28_3 : w28_.cell? ⟨gb28_, 3, none⟩ = some (.int .i64 0) := (blk_cell BK28.out 3).trans rfl
    have hfz29_BK28_3 := blk_frozen BK28.out 3
    refine hK.out _ _ ⟨((blk_cell BK1.out 0).trans rfl), ((blk_cell BK1.out 1).trans rfl), ((blk_cell BK1.out 2).trans rfl)⟩ (fun hHeld => ?_)
    clear hK K
    refine norm_ (a' := ?_) ?_ ?_
    rotate_left
    ·show Act.put _ (some 6) _ = _
     simp only [Act.put, List.setIfInBounds_toArray, List.set_cons_zero, List.set_cons_succ, i64_w, i32_w]
     rfl
    refine one_ (i := 3) (N := some 28) #[tT, tT, tT, tT, fF, fF, fF, fF, tT, fF, fF] rfl rfl (one_of HT_.out kf) (by decide) (fun K hK => ?_)
    refine goes_ Tryz.func9 kf rfl #[.agg #[.int .i64 a1, .slice A1_1 l1_1.length c1_1, .slice A1_2 l1_2.length c1_2], .bool false] (by rfl) rfl rfl sm ?_
    (with_reducible refine (toBox_pad a1 _ _ l1_1 _ _ l1_2 _ ?side1 ?side2 ?side3 ?side4 HN1_1.out HN1_2.out).mono ?_)
    (case side1 => repeat (first | exact HR1_1.out | exact (Kd.C_below HR1_1.out bz) | (with_reducible refine Kd.C_alloc ?_ _) | (with_reducible refine Kd.C_drewN ?_ _) | (with_reducible refine Kd.C_drew ?_)))
    (case side2 => exact HC1_1.out)
    (case side3 => repeat (first | exact HR1_2.out | exact (Kd.C_below HR1_2.out bz) | (with_reducible refine Kd.C_alloc ?_ _) | (with_reducible refine Kd.C_drewN ?_ _) | (with_reducible refine Kd.C_drew ?_)))
    (case side4 => exact HC1_2.out)
    rintro e w30_ ⟨g30_0_, g30_1_, rfl, ho0, ho1, hb⟩
    refine ⟨_, rfl, ?_⟩
    have NGg30_0_ : Aside0 (g30_0_ ≠ g30_1_) := ⟨ho0.1 _ rfl⟩
    replace ho0 := Kd.R_mono ho0 (fun _ _ => True.intro)
    replace ho1 := Kd.R_mono ho1 (fun _ _ => True.intro)
    obtain ⟨a30_1_, b30_1_, z1_, z2_, zo0_, zo1_, z4_⟩ := made2 (by exact Z.out) bz hb ho0 ho1
    have nO16_0_ := Aside0.mk (Kd.R_below (kr O16_0) hb)
    have nBK1_ := bb BK1 hb
    have nBK28_ := bb BK28 hb
    clear O16_0 BK1 BK28 HB Z
    have O16_0 := nO16_0_
    have BK1 := nBK1_
    have BK28 := nBK28_
    clear nO16_0_ nBK1_ nBK28_
    have O30_0 := Aside0.mk zo0_
    have O30_1 := Aside0.mk zo1_
    have Q30_1 := Aside0.mk z1_
    have HB := Aside0.mk z4_
    have Z := Aside0.mk z2_
    clear z1_ z2_ z4_ hb ho0 zo0_ ho1 zo1_
    (try clear hcz29_BK1_0 hfz29_BK1_0 hcz29_BK1_1 hfz29_BK1_1 hcz29_BK1_2 hfz29_BK1_2 hcz29_BK28_0 hfz29_BK28_0 hcz29_BK28_1 hfz29_BK28_1 hcz29_BK28_2 hfz29_BK28_2 hcz29_BK28_3 hfz29_BK28_3)
    have hcz31_BK1_0 : w30_.cell? ⟨gb1_, 0, none⟩ = some (.int .i64 a1) := (blk_cell BK1.out 0).trans rfl
    have hfz31_BK1_0 := blk_frozen BK1.out 0
    have hcz31_BK1_1 : w30_.cell? ⟨gb1_, 1, none⟩ = some (.slice A1_1 l1_1.length c1_1) := (blk_cell BK1.out 1).trans rfl
    have hfz31_BK1_1 := blk_frozen BK1.out 1
    have hcz31_BK1_2 : w30_.cell? ⟨gb1_, 2, none⟩ = some (.slice A1_2 l1_2.length c1_2) := (blk_cell BK1.out 2).trans rfl
    have hfz31_BK1_2 := blk_frozen BK1.out 2
    have hcz31_BK28_0 : w30_.cell? ⟨gb28_, 0, none⟩ = some (.int .i64 0) := (blk_cell BK28.out 0).trans rfl
    have hfz31_BK28_0 := blk_frozen BK28.out 0
    have hcz31_BK28_1 : w30_.cell? ⟨gb28_, 1, none⟩ = some (.int .i64 0) := (blk_cell BK28.out 1).trans rfl
    have hfz31_BK28_1 := blk_frozen BK28.out 1
    have hcz31_BK28_2 : w30_.cell? ⟨gb28_, 2, none⟩ = some (.int .i64 0) := (blk_cell BK28.out 2).trans rfl
    have hfz31_BK28_2 := blk_frozen BK28.out 2
    have hcz31_BK28_3 : w30_.cell? ⟨gb28_, 3, none⟩ = some (.int .i64 0) := (blk_cell BK28.out 3).trans rfl
    have hfz31_BK28_3 := blk_frozen BK28.out 3
    refine hK.out _ _ ⟨((blk_cell BK1.out 0).trans rfl), ((blk_cell BK1.out 1).trans rfl), ((blk_cell BK1.out 2).trans rfl)⟩ (fun hHeld => ?_)
    clear hK K
    refine norm_ (a' := ?_) ?_ ?_
    rotate_left
    ·show Act.put _ (some 28) _ = _
     simp only [Act.put, List.setIfInBounds_toArray, List.set_cons_zero, List.set_cons_succ, i64_w, i32_w]
     rfl
    refine one_ (i := 4) (N := some 29) #[tT, tT, tT, tT, tT, fF, fF, fF, tT, fF, fF] rfl rfl (one_of HT_.out kf) (by decide) (fun K hK => ?_)
    refine goes_ Tryz.func7 kf rfl #[.slice A16_ q0.length c16_, .agg #[.int .i64 a1, .slice (some ⟨g30_0_, 0, none⟩) l1_1.length (pad l1_1).length, .slice (some ⟨g30_1_, 0, none⟩) l1_2.length (pad l1_2).length]] (by rfl) rfl rfl sm ?_
    (with_reducible refine (spec_ValueOver.calls ks _ _ q0 a1 _ _ l1_1 _ _ l1_2 r1_0 r1_1 r1_2 r1_3 r2 _ ?side1 ?side2 ?side3 ?side4 ?side5 ?side6 HS.out).mono ?_)
    (case side1 => repeat (first | exact padr HP0.out O16_0.out | (with_reducible refine Kd.C_alloc ?_ _) | (with_reducible refine Kd.C_drewN ?_ _) | (with_reducible refine Kd.C_drew ?_)))
    (case side2 => exact padl HP0.out (Kd.R_reads' O16_0.out).2.1)
    (case side3 => repeat (first | exact pad_reads O30_0.out | (with_reducible refine Kd.C_alloc ?_ _) | (with_reducible refine Kd.C_drewN ?_ _) | (with_reducible refine Kd.C_drew ?_)))
    (case side4 => exact pad_le _)
    (case side5 => repeat (first | exact pad_reads O30_1.out | (with_reducible refine Kd.C_alloc ?_ _) | (with_reducible refine Kd.C_drewN ?_ _) | (with_reducible refine Kd.C_drew ?_)))
    (case side6 => exact pad_le _)
    rintro e w32_ ⟨rfl, hb⟩
    refine ⟨_, rfl, ?_⟩
    obtain ⟨z2_, z4_⟩ := still (by exact Z.out) bz hb
    have nO16_0_ := Aside0.mk (Kd.R_below (kr O16_0) hb)
    have nO30_0_ := Aside0.mk (Kd.R_below (kr O30_0) hb)
    have nO30_1_ := Aside0.mk (Kd.R_below (kr O30_1) hb)
    have nBK1_ := bb BK1 hb
    have nBK28_ := bb BK28 hb
    clear O16_0 O30_0 O30_1 BK1 BK28 HB Z
    have O16_0 := nO16_0_
    have O30_0 := nO30_0_
    have O30_1 := nO30_1_
    have BK1 := nBK1_
    have BK28 := nBK28_
    clear nO16_0_ nO30_0_ nO30_1_ nBK1_ nBK28_
    have HB := Aside0.mk z4_
    have Z := Aside0.mk z2_
    clear z2_ z4_ hb
    (try clear hcz31_BK1_0 hfz31_BK1_0 hcz31_BK1_1 hfz31_BK1_1 hcz31_BK1_2 hfz31_BK1_2 hcz31_BK28_0 hfz31_BK28_0 hcz31_BK28_1 hfz31_BK28_1 hcz31_BK28_2 hfz31_BK28_2 hcz31_BK28_3 hfz31_BK28_3)
    have hcz33_BK1_0 : w32_.cell? ⟨gb1_, 0, none⟩ = some (.int .i64 a1) := (blk_cell BK1.out 0).trans rfl
    have hfz33_BK1_0 := blk_frozen BK1.out 0
    have hcz33_BK1_1 : w32_.cell? ⟨gb1_, 1, none⟩ = some (.slice A1_1 l1_1.length c1_1) := (blk_cell BK1.out 1).trans rfl
    have hfz33_BK1_1 := blk_frozen BK1.out 1
    have hcz33_BK1_2 : w32_.cell? ⟨gb1_, 2, none⟩ = some (.slice A1_2 l1_2.length c1_2) := (blk_cell BK1.out 2).trans rfl
    have hfz33_BK1_2 := blk_frozen BK1.out 2
    have hcz33_BK28_0 : w32_.cell? ⟨gb28_, 0, none⟩ = some (.int .i64 0) := (blk_cell BK28.out 0).trans rfl
    have hfz33_BK28_0 := blk_frozen BK28.out 0
    have hcz33_BK28_1 : w32_.cell? ⟨gb28_, 1, none⟩ = some (.int .i64 0) := (blk_cell BK28.out 1).trans rfl
    have hfz33_BK28_1 := blk_frozen BK28.out 1
    have hcz33_BK28_2 : w32_.cell? ⟨gb28_, 2, none⟩ = some (.int .i64 0) := (blk_cell BK28.out 2).trans rfl
    have hfz33_BK28_2 := blk_frozen BK28.out 2
    have hcz33_BK28_3 : w32_.cell? ⟨gb28_, 3, none⟩ = some (.int .i64 0) := (blk_cell BK28.out 3).trans rfl
    have hfz33_BK28_3 := blk_frozen BK28.out 3
    refine hK.out _ _ ⟨((blk_cell BK1.out 0).trans rfl), ((blk_cell BK1.out 1).trans rfl), ((blk_cell BK1.out 2).trans rfl)⟩ (fun hHeld => ?_)
    clear hK K
    refine norm_ (a' := ?_) ?_ ?_
    rotate_left
    ·show Act.put _ (some 29) _ = _
     simp only [Act.put, List.setIfInBounds_toArray, List.set_cons_zero, List.set_cons_succ, i64_w, i32_w]
     rfl
    refine pq (i := 5) (N := some 24) #[tT, tT, tT, tT, tT, tT, fF, fF, tT, fF, fF] rfl rfl HT_.out ?_
    refine pq (i := 6) (N := some 30) #[tT, tT, tT, tT, tT, tT, tT, fF, tT, fF, fF] rfl rfl HT_.out ?_
    refine pq (i := 7) (N := some 31) #[tT, tT, tT, tT, tT, tT, tT, tT, tT, fF, fF] rfl rfl HT_.out ?_
    exact norm_ (by simp only [putAll, Act.put, List.setIfInBounds_toArray, List.set_cons_zero, List.set_cons_succ]) (hCont ((.slice A16_ q0.length c16_ : Value), (.agg #[.int .i64 a1, .slice (some ⟨g30_0_, 0, none⟩) l1_1.length (pad l1_1).length, .slice (some ⟨g30_1_, 0, none⟩) l1_2.length (pad l1_2).length] : Value), (gb28_ : Nat)) _ ⟨((blk_cell BK1.out 0).trans rfl), ((blk_cell BK1.out 1).trans rfl), ((blk_cell BK1.out 2).trans rfl), BK1.out, BK28.out, (show (gb1_ + 1) ≤ gb28_ from by have := GB28.out; have := GB1.out; have := Q16_0.out; have := GB28.out; have := Q30_1.out; omega), GE28.out, NBBK1_28.out, HB.out, (blk_lt BK28.out)⟩)
  ·skip
   refine box_draw (N := 6) (cs := #[.int .i64 0, .int .i64 0, .int .i64 0, .int .i64 0]) (t := 31) (by rfl) rfl ?hr ?_
   (case hr => first | (go_simp; done) | (go_simp; rfl))
   intro gb34_ hg w34_ hbox hb
   obtain ⟨z2_, z4_⟩ := still (by exact Z.out) bz hb
   have GB34 : Aside0 ((gb1_ + 1) ≤ gb34_) := ⟨by rw [hg]; exact Z.out⟩
   have GE34 : Aside0 (w.heap.size ≤ gb34_) := ⟨by rw [hg]; exact (below_size bz)⟩
   have NBBK1_34 : Aside0 (gb1_ ≠ gb34_) := ⟨by rw [hg]; exact Nat.ne_of_lt (blk_lt (w := _) (o := .cells #[.int .i64 a1, .slice A1_1 l1_1.length c1_1, .slice A1_2 l1_2.length c1_2] 25 (0, 0)) (bk BK1))⟩
   have nBK1_ := bb BK1 hb
   have BK34 := Aside0.mk hbox
   clear BK1 HB Z
   have BK1 := nBK1_
   clear nBK1_
   have zb_ : gb34_ + 1 ≤ w34_.heap.size := blk_lt BK34.out
   have HB := Aside0.mk z4_
   have Z := Aside0.mk zb_
   clear z2_ z4_ zb_ hb hg hbox
   (try clear hcz4_BK1_0 hfz4_BK1_0 hcz4_BK1_1 hfz4_BK1_1 hcz4_BK1_2 hfz4_BK1_2)
   have hcz35_BK1_0 : w34_.cell? ⟨gb1_, 0, none⟩ = some (.int .i64 a1) := (blk_cell BK1.out 0).trans rfl
   have hfz35_BK1_0 := blk_frozen BK1.out 0
   have hcz35_BK1_1 : w34_.cell? ⟨gb1_, 1, none⟩ = some (.slice A1_1 l1_1.length c1_1) := (blk_cell BK1.out 1).trans rfl
   have hfz35_BK1_1 := blk_frozen BK1.out 1
   have hcz35_BK1_2 : w34_.cell? ⟨gb1_, 2, none⟩ = some (.slice A1_2 l1_2.length c1_2) := (blk_cell BK1.out 2).trans rfl
   have hfz35_BK1_2 := blk_frozen BK1.out 2
   have hcz35_BK34_0 : w34_.cell? ⟨gb34_, 0, none⟩ = some (.int .i64 0) := (blk_cell BK34.out 0).trans rfl
   have hfz35_BK34_0 := blk_frozen BK34.out 0
   have hcz35_BK34_1 : w34_.cell? ⟨gb34_, 1, none⟩ = some (.int .i64 0) := (blk_cell BK34.out 1).trans rfl
   have hfz35_BK34_1 := blk_frozen BK34.out 1
   have hcz35_BK34_2 : w34_.cell? ⟨gb34_, 2, none⟩ = some (.int .i64 0) := (blk_cell BK34.out 2).trans rfl
   have hfz35_BK34_2 := blk_frozen BK34.out 2
   have hcz35_BK34_3 : w34_.cell? ⟨gb34_, 3, none⟩ = some (.int .i64 0) := (blk_cell BK34.out 3).trans rfl
   have hfz35_BK34_3 := blk_frozen BK34.out 3
   refine hK.out _ _ ⟨((blk_cell BK1.out 0).trans rfl), ((blk_cell BK1.out 1).trans rfl), ((blk_cell BK1.out 2).trans rfl)⟩ (fun hHeld => ?_)
   clear hK K
   refine norm_ (a' := ?_) ?_ ?_
   rotate_left
   ·show Act.put _ (some 6) _ = _
    simp only [Act.put, List.setIfInBounds_toArray, List.set_cons_zero, List.set_cons_succ, i64_w, i32_w]
    rfl
   refine one_ (i := 1) (N := some 26) #[tT, tT, tT, fF, fF, fF, fF, fF, tT, fF, fF] rfl rfl (one_of HT_.out kf) (by decide) (fun K hK => ?_)
   refine goes_ Tryz.func8 kf rfl #[.slice A0 l0.length c0, .bool false] (by rfl) rfl rfl sm ?_
   (with_reducible refine (toTermS_pad kw0 _ _ l0 q0 P0 _ ?side1 ?side2 HW0.out HQL0.out).mono ?_)
   (case side1 => repeat (first | exact HR0.out | exact (Kd.C_below HR0.out bz) | (with_reducible refine Kd.C_alloc ?_ _) | (with_reducible refine Kd.C_drewN ?_ _) | (with_reducible refine Kd.C_drew ?_)))
   (case side2 => exact HC0.out)
   rintro e w36_ ⟨A36_, c36_, rfl, ho0, hb⟩
   refine ⟨_, rfl, ?_⟩
   obtain ⟨a36_0_, b36_0_, z1_, z2_, zo0_, z4_⟩ := made (by exact Z.out) bz hb ho0
   have nBK1_ := bb BK1 hb
   have nBK34_ := bb BK34 hb
   clear BK1 BK34 HB Z
   have BK1 := nBK1_
   have BK34 := nBK34_
   clear nBK1_ nBK34_
   have O36_0 := Aside0.mk zo0_
   have Q36_0 := Aside0.mk z1_
   have HB := Aside0.mk z4_
   have Z := Aside0.mk z2_
   clear z1_ z2_ z4_ hb ho0 zo0_
   (try clear hcz35_BK1_0 hfz35_BK1_0 hcz35_BK1_1 hfz35_BK1_1 hcz35_BK1_2 hfz35_BK1_2 hcz35_BK34_0 hfz35_BK34_0 hcz35_BK34_1 hfz35_BK34_1 hcz35_BK34_2 hfz35_BK34_2 hcz35_BK34_3 hfz35_BK34_3)
   have hcz37_BK1_0 : w36_.cell? ⟨gb1_, 0, none⟩ = some (.int .i64 a1) := (blk_cell BK1.out 0).trans rfl
   have hfz37_BK1_0 := blk_frozen BK1.out 0
   have hcz37_BK1_1 : w36_.cell? ⟨gb1_, 1, none⟩ = some (.slice A1_1 l1_1.length c1_1) := (blk_cell BK1.out 1).trans rfl
   have hfz37_BK1_1 := blk_frozen BK1.out 1
   have hcz37_BK1_2 : w36_.cell? ⟨gb1_, 2, none⟩ = some (.slice A1_2 l1_2.length c1_2) := (blk_cell BK1.out 2).trans rfl
   have hfz37_BK1_2 := blk_frozen BK1.out 2
   have hcz37_BK34_0 : w36_.cell? ⟨gb34_, 0, none⟩ = some (.int .i64 0) := (blk_cell BK34.out 0).trans rfl
   have hfz37_BK34_0 := blk_frozen BK34.out 0
   have hcz37_BK34_1 : w36_.cell? ⟨gb34_, 1, none⟩ = some (.int .i64 0) := (blk_cell BK34.out 1).trans rfl
   have hfz37_BK34_1 := blk_frozen BK34.out 1
   have hcz37_BK34_2 : w36_.cell? ⟨gb34_, 2, none⟩ = some (.int .i64 0) := (blk_cell BK34.out 2).trans rfl
   have hfz37_BK34_2 := blk_frozen BK34.out 2
   have hcz37_BK34_3 : w36_.cell? ⟨gb34_, 3, none⟩ = some (.int .i64 0) := (blk_cell BK34.out 3).trans rfl
   have hfz37_BK34_3 := blk_frozen BK34.out 3
   refine hK.out _ _ ⟨((blk_cell BK1.out 0).trans rfl), ((blk_cell BK1.out 1).trans rfl), ((blk_cell BK1.out 2).trans rfl)⟩ (fun hHeld => ?_)
   clear hK K
   refine norm_ (a' := ?_) ?_ ?_
   rotate_left
   ·show Act.put _ (some 26) _ = _
    simp only [Act.put, List.setIfInBounds_toArray, List.set_cons_zero, List.set_cons_succ, i64_w, i32_w]
    rfl
   refine one_ (i := 3) (N := some 28) #[tT, tT, tT, tT, fF, fF, fF, fF, tT, fF, fF] rfl rfl (one_of HT_.out kf) (by decide) (fun K hK => ?_)
   refine goes_ Tryz.func9 kf rfl #[.agg #[.int .i64 a1, .slice A1_1 l1_1.length c1_1, .slice A1_2 l1_2.length c1_2], .bool false] (by rfl) rfl rfl sm ?_
   (with_reducible refine (toBox_pad a1 _ _ l1_1 _ _ l1_2 _ ?side1 ?side2 ?side3 ?side4 HN1_1.out HN1_2.out).mono ?_)
   (case side1 => repeat (first | exact HR1_1.out | exact (Kd.C_below HR1_1.out bz) | (with_reducible refine Kd.C_alloc ?_ _) | (with_reducible refine Kd.C_drewN ?_ _) | (with_reducible refine Kd.C_drew ?_)))
   (case side2 => exact HC1_1.out)
   (case side3 => repeat (first | exact HR1_2.out | exact (Kd.C_below HR1_2.out bz) | (with_reducible refine Kd.C_alloc ?_ _) | (with_reducible refine Kd.C_drewN ?_ _) | (with_reducible refine Kd.C_drew ?_)))
   (case side4 => exact HC1_2.out)
   rintro e w38_ ⟨g38_0_, g38_1_, rfl, ho0, ho1, hb⟩
   refine ⟨_, rfl, ?_⟩
   have NGg38_0_ : Aside0 (g38_0_ ≠ g38_1_) := ⟨ho0.1 _ rfl⟩
   replace ho0 := Kd.R_mono ho0 (fun _ _ => True.intro)
   replace ho1 := Kd.R_mono ho1 (fun _ _ => True.intro)
   obtain ⟨a38_1_, b38_1_, z1_, z2_, zo0_, zo1_, z4_⟩ := made2 (by exact Z.out) bz hb ho0 ho1
   have nO36_0_ := Aside0.mk (Kd.R_below (kr O36_0) hb)
   have nBK1_ := bb BK1 hb
   have nBK34_ := bb BK34 hb
   clear O36_0 BK1 BK34 HB Z
   have O36_0 := nO36_0_
   have BK1 := nBK1_
   have BK34 := nBK34_
   clear nO36_0_ nBK1_ nBK34_
   have O38_0 := Aside0.mk zo0_
   have O38_1 := Aside0.mk zo1_
   have Q38_1 := Aside0.mk z1_
   have HB := Aside0.mk z4_
   have Z := Aside0.mk z2_
   clear z1_ z2_ z4_ hb ho0 zo0_ ho1 zo1_
   (try clear hcz37_BK1_0 hfz37_BK1_0 hcz37_BK1_1 hfz37_BK1_1 hcz37_BK1_2 hfz37_BK1_2 hcz37_BK34_0 hfz37_BK34_0 hcz37_BK34_1 hfz37_BK34_1 hcz37_BK34_2 hfz37_BK34_2 hcz37_BK34_3 hfz37_BK34_3)
   have hcz39_BK1_0 : w38_.cell? ⟨gb1_, 0, none⟩ = some (.int .i64 a1) := (blk_cell BK1.out 0).trans rfl
   have hfz39_BK1_0 := blk_frozen BK1.out 0
   have hcz39_BK1_1 : w38_.cell? ⟨gb1_, 1, none⟩ = some (.slice A1_1 l1_1.length c1_1) := (blk_cell BK1.out 1).trans rfl
   have hfz39_BK1_1 := blk_frozen BK1.out 1
   have hcz39_BK1_2 : w38_.cell? ⟨gb1_, 2, none⟩ = some (.slice A1_2 l1_2.length c1_2) := (blk_cell BK1.out 2).trans rfl
   have hfz39_BK1_2 := blk_frozen BK1.out 2
   have hcz39_BK34_0 : w38_.cell? ⟨gb34_, 0, none⟩ = some (.int .i64 0) := (blk_cell BK34.out 0).trans rfl
   have hfz39_BK34_0 := blk_frozen BK34.out 0
   have hcz39_BK34_1 : w38_.cell? ⟨gb34_, 1, none⟩ = some (.int .i64 0) := (blk_cell BK34.out 1).trans rfl
   have hfz39_BK34_1 := blk_frozen BK34.out 1
   have hcz39_BK34_2 : w38_.cell? ⟨gb34_, 2, none⟩ = some (.int .i64 0) := (blk_cell BK34.out 2).trans rfl
   have hfz39_BK34_2 := blk_frozen BK34.out 2
   have hcz39_BK34_3 : w38_.cell? ⟨gb34_, 3, none⟩ = some (.int .i64 0) := (blk_cell BK34.out 3).trans rfl
   have hfz39_BK34_3 := blk_frozen BK34.out 3
   refine hK.out _ _ ⟨((blk_cell BK1.out 0).trans rfl), ((blk_cell BK1.out 1).trans rfl), ((blk_cell BK1.out 2).trans rfl)⟩ (fun hHeld => ?_)
   clear hK K
   refine norm_ (a' := ?_) ?_ ?_
   rotate_left
   ·show Act.put _ (some 28) _ = _
    simp only [Act.put, List.setIfInBounds_toArray, List.set_cons_zero, List.set_cons_succ, i64_w, i32_w]
    rfl
   refine one_ (i := 4) (N := some 29) #[tT, tT, tT, tT, tT, fF, fF, fF, tT, fF, fF] rfl rfl (one_of HT_.out kf) (by decide) (fun K hK => ?_)
   refine goes_ Tryz.func7 kf rfl #[.slice A36_ q0.length c36_, .agg #[.int .i64 a1, .slice (some ⟨g38_0_, 0, none⟩) l1_1.length (pad l1_1).length, .slice (some ⟨g38_1_, 0, none⟩) l1_2.length (pad l1_2).length]] (by rfl) rfl rfl sm ?_
   (with_reducible refine (spec_ValueOver.calls ks _ _ q0 a1 _ _ l1_1 _ _ l1_2 r1_0 r1_1 r1_2 r1_3 r2 _ ?side1 ?side2 ?side3 ?side4 ?side5 ?side6 HS.out).mono ?_)
   (case side1 => repeat (first | exact padr HP0.out O36_0.out | (with_reducible refine Kd.C_alloc ?_ _) | (with_reducible refine Kd.C_drewN ?_ _) | (with_reducible refine Kd.C_drew ?_)))
   (case side2 => exact padl HP0.out (Kd.R_reads' O36_0.out).2.1)
   (case side3 => repeat (first | exact pad_reads O38_0.out | (with_reducible refine Kd.C_alloc ?_ _) | (with_reducible refine Kd.C_drewN ?_ _) | (with_reducible refine Kd.C_drew ?_)))
   (case side4 => exact pad_le _)
   (case side5 => repeat (first | exact pad_reads O38_1.out | (with_reducible refine Kd.C_alloc ?_ _) | (with_reducible refine Kd.C_drewN ?_ _) | (with_reducible refine Kd.C_drew ?_)))
   (case side6 => exact pad_le _)
   rintro e w40_ ⟨rfl, hb⟩
   refine ⟨_, rfl, ?_⟩
   obtain ⟨z2_, z4_⟩ := still (by exact Z.out) bz hb
   have nO36_0_ := Aside0.mk (Kd.R_below (kr O36_0) hb)
   have nO38_0_ := Aside0.mk (Kd.R_below (kr O38_0) hb)
   have nO38_1_ := Aside0.mk (Kd.R_below (kr O38_1) hb)
   have nBK1_ := bb BK1 hb
   have nBK34_ := bb BK34 hb
   clear O36_0 O38_0 O38_1 BK1 BK34 HB Z
   have O36_0 := nO36_0_
   have O38_0 := nO38_0_
   have O38_1 := nO38_1_
   have BK1 := nBK1_
   have BK34 := nBK34_
   clear nO36_0_ nO38_0_ nO38_1_ nBK1_ nBK34_
   have HB := Aside0.mk z4_
   have Z := Aside0.mk z2_
   clear z2_ z4_ hb
   (try clear hcz39_BK1_0 hfz39_BK1_0 hcz39_BK1_1 hfz39_BK1_1 hcz39_BK1_2 hfz39_BK1_2 hcz39_BK34_0 hfz39_BK34_0 hcz39_BK34_1 hfz39_BK34_1 hcz39_BK34_2 hfz39_BK34_2 hcz39_BK34_3 hfz39_BK34_3)
   have hcz41_BK1_0 : w40_.cell? ⟨gb1_, 0, none⟩ = some (.int .i64 a1) := (blk_cell BK1.out 0).trans rfl
   have hfz41_BK1_0 := blk_frozen BK1.out 0
   have hcz41_BK1_1 : w40_.cell? ⟨gb1_, 1, none⟩ = some (.slice A1_1 l1_1.length c1_1) := (blk_cell BK1.out 1).trans rfl
   have hfz41_BK1_1 := blk_frozen BK1.out 1
   have hcz41_BK1_2 : w40_.cell? ⟨gb1_, 2, none⟩ = some (.slice A1_2 l1_2.length c1_2) := (blk_cell BK1.out 2).trans rfl
   have hfz41_BK1_2 := blk_frozen BK1.out 2
   have hcz41_BK34_0 : w40_.cell? ⟨gb34_, 0, none⟩ = some (.int .i64 0) := (blk_cell BK34.out 0).trans rfl
   have hfz41_BK34_0 := blk_frozen BK34.out 0
   have hcz41_BK34_1 : w40_.cell? ⟨gb34_, 1, none⟩ = some (.int .i64 0) := (blk_cell BK34.out 1).trans rfl
   have hfz41_BK34_1 := blk_frozen BK34.out 1
   have hcz41_BK34_2 : w40_.cell? ⟨gb34_, 2, none⟩ = some (.int .i64 0) := (blk_cell BK34.out 2).trans rfl
   have hfz41_BK34_2 := blk_frozen BK34.out 2
   have hcz41_BK34_3 : w40_.cell? ⟨gb34_, 3, none⟩ = some (.int .i64 0) := (blk_cell BK34.out 3).trans rfl
   have hfz41_BK34_3 := blk_frozen BK34.out 3
   refine hK.out _ _ ⟨((blk_cell BK1.out 0).trans rfl), ((blk_cell BK1.out 1).trans rfl), ((blk_cell BK1.out 2).trans rfl)⟩ (fun hHeld => ?_)
   clear hK K
   refine norm_ (a' := ?_) ?_ ?_
   rotate_left
   ·show Act.put _ (some 29) _ = _
    simp only [Act.put, List.setIfInBounds_toArray, List.set_cons_zero, List.set_cons_succ, i64_w, i32_w]
    rfl
   refine pq (i := 5) (N := some 24) #[tT, tT, tT, tT, tT, tT, fF, fF, tT, fF, fF] rfl rfl HT_.out ?_
   refine pq (i := 6) (N := some 30) #[tT, tT, tT, tT, tT, tT, tT, fF, tT, fF, fF] rfl rfl HT_.out ?_
   refine pq (i := 7) (N := some 31) #[tT, tT, tT, tT, tT, tT, tT, tT, tT, fF, fF] rfl rfl HT_.out ?_
   exact norm_ (by simp only [putAll, Act.put, List.setIfInBounds_toArray, List.set_cons_zero, List.set_cons_succ]) (hCont ((.slice A36_ q0.length c36_ : Value), (.agg #[.int .i64 a1, .slice (some ⟨g38_0_, 0, none⟩) l1_1.length (pad l1_1).length, .slice (some ⟨g38_1_, 0, none⟩) l1_2.length (pad l1_2).length] : Value), (gb34_ : Nat)) _ ⟨((blk_cell BK1.out 0).trans rfl), ((blk_cell BK1.out 1).trans rfl), ((blk_cell BK1.out 2).trans rfl), BK1.out, BK34.out, (show (gb1_ + 1) ≤ gb34_ from by have := GB34.out; have := GB1.out; have := GB34.out; have := Q36_0.out; have := Q38_1.out; omega), GE34.out, NBBK1_34.out, HB.out, (blk_lt BK34.out)⟩)
 rintro ⟨v12_26_, v12_28_, gb12_⟩ w12_ ⟨f0_, f1_, f2_, f3_, f4_, f5_, f6_, f7_, f8_, f9_⟩
 have hHeld : w12_.cell? ⟨gb1_, 0, none⟩ = some (.int .i64 a1) ∧ w12_.cell? ⟨gb1_, 1, none⟩ = some (.slice A1_1 l1_1.length c1_1) ∧ w12_.cell? ⟨gb1_, 2, none⟩ = some (.slice A1_2 l1_2.length c1_2) := ⟨f0_, f1_, f2_⟩
 clear BK1 HB Z
 have BK1 : Aside0 (w12_.heap[gb1_]? = some (.cells #[.int .i64 a1, .slice A1_1 l1_1.length c1_1, .slice A1_2 l1_2.length c1_2] 25 (0, 0))) := ⟨f3_⟩
 have BK12 : Aside0 (w12_.heap[gb12_]? = some (.cells #[.int .i64 0, .int .i64 0, .int .i64 0, .int .i64 0] 31 (0, 0))) := ⟨f4_⟩
 have GB12 : Aside0 ((gb1_ + 1) ≤ gb12_) := ⟨f5_⟩
 have GE12 : Aside0 (w.heap.size ≤ gb12_) := ⟨f6_⟩
 have NBBK1_12 : Aside0 (gb1_ ≠ gb12_) := ⟨f7_⟩
 have HB : Aside0 (Below w.heap.size w w12_) := ⟨f8_⟩
 have Z : Aside0 (gb12_ + 1 ≤ w12_.heap.size) := ⟨f9_⟩
 clear f0_ f1_ f2_ f3_ f4_ f5_ f6_ f7_ f8_ f9_
 (try clear hcz4_BK1_0 hfz4_BK1_0 hcz4_BK1_1 hfz4_BK1_1 hcz4_BK1_2 hfz4_BK1_2)
 have hcz13_BK1_0 : w12_.cell? ⟨gb1_, 0, none⟩ = some (.int .i64 a1) := (blk_cell BK1.out 0).trans rfl
 have hfz13_BK1_0 := blk_frozen BK1.out 0
 have hcz13_BK1_1 : w12_.cell? ⟨gb1_, 1, none⟩ = some (.slice A1_1 l1_1.length c1_1) := (blk_cell BK1.out 1).trans rfl
 have hfz13_BK1_1 := blk_frozen BK1.out 1
 have hcz13_BK1_2 : w12_.cell? ⟨gb1_, 2, none⟩ = some (.slice A1_2 l1_2.length c1_2) := (blk_cell BK1.out 2).trans rfl
 have hfz13_BK1_2 := blk_frozen BK1.out 2
 have hcz13_BK12_0 : w12_.cell? ⟨gb12_, 0, none⟩ = some (.int .i64 0) := (blk_cell BK12.out 0).trans rfl
 have hfz13_BK12_0 := blk_frozen BK12.out 0
 have hcz13_BK12_1 : w12_.cell? ⟨gb12_, 1, none⟩ = some (.int .i64 0) := (blk_cell BK12.out 1).trans rfl
 have hfz13_BK12_1 := blk_frozen BK12.out 1
 have hcz13_BK12_2 : w12_.cell? ⟨gb12_, 2, none⟩ = some (.int .i64 0) := (blk_cell BK12.out 2).trans rfl
 have hfz13_BK12_2 := blk_frozen BK12.out 2
 have hcz13_BK12_3 : w12_.cell? ⟨gb12_, 3, none⟩ = some (.int .i64 0) := (blk_cell BK12.out 3).trans rfl
 have hfz13_BK12_3 := blk_frozen BK12.out 3
 refine norm_ (a' := ?_) ?_ ?_
 rotate_left
 ·simp only [putAll, Act.put, List.setIfInBounds_toArray, List.set_cons_zero, List.set_cons_succ]
  rfl
 refine one_ (i := 9) (N := none) #[tT, tT, tT, tT, tT, tT, tT, tT, tT, tT, fF] rfl rfl (one_of HT_.out kf) (by decide) (fun K hK => ?_)
 refine store_draw (w1 := ((((w12_.setCell ⟨gb12_, 0, none⟩ (.int .i64 r1_0)).setCell ⟨gb12_, 1, none⟩ (.int .i64 r1_1)).setCell ⟨gb12_, 2, none⟩ (.int .i64 r1_2)).setCell ⟨gb12_, 3, none⟩ (.int .i64 r1_3))) (by rfl) rfl ?hr ?_
 (case hr => first | (go_simp; done) | (go_simp; rfl))
 intro w14_ hw
 have hk := ((((Kept.refl w12_ (fun k_ => k_ = gb12_)).setCell (p := ⟨gb12_, 0, none⟩) (.inl rfl) (.int .i64 r1_0)).setCell (p := ⟨gb12_, 1, none⟩) (.inl rfl) (.int .i64 r1_1)).setCell (p := ⟨gb12_, 2, none⟩) (.inl rfl) (.int .i64 r1_2)).setCell (p := ⟨gb12_, 3, none⟩) (.inl rfl) (.int .i64 r1_3)
 rw [← hw] at hk
 have nBK1_ : Aside0 (w14_.heap[gb1_]? = some (.cells #[.int .i64 a1, .slice A1_1 l1_1.length c1_1, .slice A1_2 l1_2.length c1_2] 25 (0, 0))) := ⟨by rw [hw]; exact (blk_far (blk_far (blk_far (blk_far BK1.out (p := ⟨gb12_, 0, none⟩) NBBK1_12.out _) (p := ⟨gb12_, 1, none⟩) NBBK1_12.out _) (p := ⟨gb12_, 2, none⟩) NBBK1_12.out _) (p := ⟨gb12_, 3, none⟩) NBBK1_12.out _)⟩
 have nBK12_ : Aside0 (w14_.heap[gb12_]? = some (.cells #[.int .i64 r1_0, .int .i64 r1_1, .int .i64 r1_2, .int .i64 r1_3] 31 (0, 0))) := ⟨by rw [hw]; exact (blk_put (cs' := #[.int .i64 r1_0, .int .i64 r1_1, .int .i64 r1_2, .int .i64 r1_3]) (blk_put (cs' := #[.int .i64 r1_0, .int .i64 r1_1, .int .i64 r1_2, .int .i64 0]) (blk_put (cs' := #[.int .i64 r1_0, .int .i64 r1_1, .int .i64 0, .int .i64 0]) (blk_put (cs' := #[.int .i64 r1_0, .int .i64 0, .int .i64 0, .int .i64 0]) BK12.out 0 (.int .i64 r1_0) rfl) 1 (.int .i64 r1_1) rfl) 2 (.int .i64 r1_2) rfl) 3 (.int .i64 r1_3) rfl)⟩
 have z2_ := Aside0.mk (Nat.le_trans (by exact Z.out) hk.1)
 have z4_ : Aside0 (Below w.heap.size w w14_) := ⟨by rw [hw]; exact (below_set (below_set (below_set (below_set HB.out GE12.out) GE12.out) GE12.out) GE12.out)⟩
 clear BK1 BK12 HB Z
 have BK1 := nBK1_
 have BK12 := nBK12_
 have HB := z4_
 have Z := z2_
 clear nBK1_ nBK12_ z2_ z4_ hk hw
 (try clear hcz13_BK1_0 hfz13_BK1_0 hcz13_BK1_1 hfz13_BK1_1 hcz13_BK1_2 hfz13_BK1_2 hcz13_BK12_0 hfz13_BK12_0 hcz13_BK12_1 hfz13_BK12_1 hcz13_BK12_2 hfz13_BK12_2 hcz13_BK12_3 hfz13_BK12_3)
 have hcz15_BK1_0 : w14_.cell? ⟨gb1_, 0, none⟩ = some (.int .i64 a1) := (blk_cell BK1.out 0).trans rfl
 have hfz15_BK1_0 := blk_frozen BK1.out 0
 have hcz15_BK1_1 : w14_.cell? ⟨gb1_, 1, none⟩ = some (.slice A1_1 l1_1.length c1_1) := (blk_cell BK1.out 1).trans rfl
 have hfz15_BK1_1 := blk_frozen BK1.out 1
 have hcz15_BK1_2 : w14_.cell? ⟨gb1_, 2, none⟩ = some (.slice A1_2 l1_2.length c1_2) := (blk_cell BK1.out 2).trans rfl
 have hfz15_BK1_2 := blk_frozen BK1.out 2
 have hcz15_BK12_0 : w14_.cell? ⟨gb12_, 0, none⟩ = some (.int .i64 r1_0) := (blk_cell BK12.out 0).trans rfl
 have hfz15_BK12_0 := blk_frozen BK12.out 0
 have hcz15_BK12_1 : w14_.cell? ⟨gb12_, 1, none⟩ = some (.int .i64 r1_1) := (blk_cell BK12.out 1).trans rfl
 have hfz15_BK12_1 := blk_frozen BK12.out 1
 have hcz15_BK12_2 : w14_.cell? ⟨gb12_, 2, none⟩ = some (.int .i64 r1_2) := (blk_cell BK12.out 2).trans rfl
 have hfz15_BK12_2 := blk_frozen BK12.out 2
 have hcz15_BK12_3 : w14_.cell? ⟨gb12_, 3, none⟩ = some (.int .i64 r1_3) := (blk_cell BK12.out 3).trans rfl
 have hfz15_BK12_3 := blk_frozen BK12.out 3
 refine hK.out _ _ ⟨((blk_cell BK1.out 0).trans rfl), ((blk_cell BK1.out 1).trans rfl), ((blk_cell BK1.out 2).trans rfl)⟩ (fun hHeld => ?_)
 clear hK K
 refine pq (i := 10) (N := some 7) #[tT, tT, tT, tT, tT, tT, tT, tT, tT, tT, tT] rfl rfl HT_.out ?_
 refine done_ (done_of HT_.out kf) ?_
 go_wp2_with (first
  | ((with_reducible refine gate_callee (f := 8) rfl ?_); refine goesL_ (some 33) rfl rfl Tryz.func8 kf rfl #[.slice A0 l0.length c0, .bool false] rfl sm ?_; (with_reducible refine (toTermS_pad kw0 _ _ l0 q0 P0 _ ?side1 ?side2 HW0.out HQL0.out).mono ?_); (case side1 => repeat (first | exact HR0.out | exact (Kd.C_below HR0.out bz) | (with_reducible refine Kd.C_alloc ?_ _) | (with_reducible refine Kd.C_drewN ?_ _) | (with_reducible refine Kd.C_drew ?_))); (case side2 => exact HC0.out); rintro e w42_ ⟨A42_, c42_, rfl, ho0, hb⟩; refine ⟨_, rfl, ?_⟩; obtain ⟨a42_0_, b42_0_, z1_, z2_, zo0_, z4_⟩ := made (by exact Z.out) bz hb ho0; have nBK1_ := bb BK1 hb; have nBK12_ := bb BK12 hb; clear BK1 BK12 HB Z; have BK1 := nBK1_; have BK12 := nBK12_; clear nBK1_ nBK12_; have O42_0 := Aside0.mk zo0_; have Q42_0 := Aside0.mk z1_; have HB := Aside0.mk z4_; have Z := Aside0.mk z2_; clear z1_ z2_ z4_ hb ho0 zo0_; (try clear hcz15_BK1_0 hfz15_BK1_0 hcz15_BK1_1 hfz15_BK1_1 hcz15_BK1_2 hfz15_BK1_2 hcz15_BK12_0 hfz15_BK12_0 hcz15_BK12_1 hfz15_BK12_1 hcz15_BK12_2 hfz15_BK12_2 hcz15_BK12_3 hfz15_BK12_3); have hcz43_BK1_0 : w42_.cell? ⟨gb1_, 0, none⟩ = some (.int .i64 a1) := (blk_cell BK1.out 0).trans rfl; have hfz43_BK1_0 := blk_frozen BK1.out 0; have hcz43_BK1_1 : w42_.cell? ⟨gb1_, 1, none⟩ = some (.slice A1_1 l1_1.length c1_1) := (blk_cell BK1.out 1).trans rfl; have hfz43_BK1_1 := blk_frozen BK1.out 1; have hcz43_BK1_2 : w42_.cell? ⟨gb1_, 2, none⟩ = some (.slice A1_2 l1_2.length c1_2) := (blk_cell BK1.out 2).trans rfl; have hfz43_BK1_2 := blk_frozen BK1.out 2; have hcz43_BK12_0 : w42_.cell? ⟨gb12_, 0, none⟩ = some (.int .i64 r1_0) := (blk_cell BK12.out 0).trans rfl; have hfz43_BK12_0 := blk_frozen BK12.out 0; have hcz43_BK12_1 : w42_.cell? ⟨gb12_, 1, none⟩ = some (.int .i64 r1_1) := (blk_cell BK12.out 1).trans rfl; have hfz43_BK12_1 := blk_frozen BK12.out 1; have hcz43_BK12_2 : w42_.cell? ⟨gb12_, 2, none⟩ = some (.int .i64 r1_2) := (blk_cell BK12.out 2).trans rfl; have hfz43_BK12_2 := blk_frozen BK12.out 2; have hcz43_BK12_3 : w42_.cell? ⟨gb12_, 3, none⟩ = some (.int .i64 r1_3) := (blk_cell BK12.out 3).trans rfl; have hfz43_BK12_3 := blk_frozen BK12.out 3)
  | ((with_reducible refine gate_callee (f := 9) rfl ?_); refine goesL_ (some 35) rfl rfl Tryz.func9 kf rfl #[.agg #[.int .i64 a1, .slice A1_1 l1_1.length c1_1, .slice A1_2 l1_2.length c1_2], .bool false] rfl sm ?_; (with_reducible refine (toBox_pad a1 _ _ l1_1 _ _ l1_2 _ ?side1 ?side2 ?side3 ?side4 HN1_1.out HN1_2.out).mono ?_); (case side1 => repeat (first | exact HR1_1.out | exact (Kd.C_below HR1_1.out bz) | (with_reducible refine Kd.C_alloc ?_ _) | (with_reducible refine Kd.C_drewN ?_ _) | (with_reducible refine Kd.C_drew ?_))); (case side2 => exact HC1_1.out); (case side3 => repeat (first | exact HR1_2.out | exact (Kd.C_below HR1_2.out bz) | (with_reducible refine Kd.C_alloc ?_ _) | (with_reducible refine Kd.C_drewN ?_ _) | (with_reducible refine Kd.C_drew ?_))); (case side4 => exact HC1_2.out); rintro e w44_ ⟨g44_0_, g44_1_, rfl, ho0, ho1, hb⟩; refine ⟨_, rfl, ?_⟩; have NGg44_0_ : Aside0 (g44_0_ ≠ g44_1_) := ⟨ho0.1 _ rfl⟩; replace ho0 := Kd.R_mono ho0 (fun _ _ => True.intro); replace ho1 := Kd.R_mono ho1 (fun _ _ => True.intro); obtain ⟨a44_1_, b44_1_, z1_, z2_, zo0_, zo1_, z4_⟩ := made2 (by exact Z.out) bz hb ho0 ho1; have nO42_0_ := Aside0.mk (Kd.R_below (kr O42_0) hb); have nBK1_ := bb BK1 hb; have nBK12_ := bb BK12 hb; clear O42_0 BK1 BK12 HB Z; have O42_0 := nO42_0_; have BK1 := nBK1_; have BK12 := nBK12_; clear nO42_0_ nBK1_ nBK12_; have O44_0 := Aside0.mk zo0_; have O44_1 := Aside0.mk zo1_; have Q44_1 := Aside0.mk z1_; have HB := Aside0.mk z4_; have Z := Aside0.mk z2_; clear z1_ z2_ z4_ hb ho0 zo0_ ho1 zo1_; (try clear hcz43_BK1_0 hfz43_BK1_0 hcz43_BK1_1 hfz43_BK1_1 hcz43_BK1_2 hfz43_BK1_2 hcz43_BK12_0 hfz43_BK12_0 hcz43_BK12_1 hfz43_BK12_1 hcz43_BK12_2 hfz43_BK12_2 hcz43_BK12_3 hfz43_BK12_3); have hcz45_BK1_0 : w44_.cell? ⟨gb1_, 0, none⟩ = some (.int .i64 a1) := (blk_cell BK1.out 0).trans rfl; have hfz45_BK1_0 := blk_frozen BK1.out 0; have hcz45_BK1_1 : w44_.cell? ⟨gb1_, 1, none⟩ = some (.slice A1_1 l1_1.length c1_1) := (blk_cell BK1.out 1).trans rfl; have hfz45_BK1_1 := blk_frozen BK1.out 1; have hcz45_BK1_2 : w44_.cell? ⟨gb1_, 2, none⟩ = some (.slice A1_2 l1_2.length c1_2) := (blk_cell BK1.out 2).trans rfl; have hfz45_BK1_2 := blk_frozen BK1.out 2; have hcz45_BK12_0 : w44_.cell? ⟨gb12_, 0, none⟩ = some (.int .i64 r1_0) := (blk_cell BK12.out 0).trans rfl; have hfz45_BK12_0 := blk_frozen BK12.out 0; have hcz45_BK12_1 : w44_.cell? ⟨gb12_, 1, none⟩ = some (.int .i64 r1_1) := (blk_cell BK12.out 1).trans rfl; have hfz45_BK12_1 := blk_frozen BK12.out 1; have hcz45_BK12_2 : w44_.cell? ⟨gb12_, 2, none⟩ = some (.int .i64 r1_2) := (blk_cell BK12.out 2).trans rfl; have hfz45_BK12_2 := blk_frozen BK12.out 2; have hcz45_BK12_3 : w44_.cell? ⟨gb12_, 3, none⟩ = some (.int .i64 r1_3) := (blk_cell BK12.out 3).trans rfl; have hfz45_BK12_3 := blk_frozen BK12.out 3)
  | ((with_reducible refine gate_dst (N := 9) rfl ?_); refine bv (N := 9) (cs := #[.int .i64 0, .slice none 0 0, .slice none 0 0]) (t := 36) ?_; intro gb46_ hg w46_ hbox hb; obtain ⟨z2_, z4_⟩ := still (by exact Z.out) bz hb; have GB46 : Aside0 (b44_1_ ≤ gb46_) := ⟨by rw [hg]; exact Z.out⟩; have GE46 : Aside0 (w.heap.size ≤ gb46_) := ⟨by rw [hg]; exact (below_size bz)⟩; have NBBK1_46 : Aside0 (gb1_ ≠ gb46_) := ⟨by rw [hg]; exact Nat.ne_of_lt (blk_lt (w := _) (o := .cells #[.int .i64 a1, .slice A1_1 l1_1.length c1_1, .slice A1_2 l1_2.length c1_2] 25 (0, 0)) (bk BK1))⟩; have NBBK12_46 : Aside0 (gb12_ ≠ gb46_) := ⟨by rw [hg]; exact Nat.ne_of_lt (blk_lt (w := _) (o := .cells #[.int .i64 r1_0, .int .i64 r1_1, .int .i64 r1_2, .int .i64 r1_3] 31 (0, 0)) (bk BK12))⟩; have nO42_0_ := Aside0.mk (Kd.R_below (kr O42_0) hb); have nO44_0_ := Aside0.mk (Kd.R_below (kr O44_0) hb); have nO44_1_ := Aside0.mk (Kd.R_below (kr O44_1) hb); have nBK1_ := bb BK1 hb; have nBK12_ := bb BK12 hb; have BK46 := Aside0.mk hbox; clear O42_0 O44_0 O44_1 BK1 BK12 HB Z; have O42_0 := nO42_0_; have O44_0 := nO44_0_; have O44_1 := nO44_1_; have BK1 := nBK1_; have BK12 := nBK12_; clear nO42_0_ nO44_0_ nO44_1_ nBK1_ nBK12_; have zb_ : gb46_ + 1 ≤ w46_.heap.size := blk_lt BK46.out; have HB := Aside0.mk z4_; have Z := Aside0.mk zb_; clear z2_ z4_ zb_ hb hg hbox; (try clear hcz45_BK1_0 hfz45_BK1_0 hcz45_BK1_1 hfz45_BK1_1 hcz45_BK1_2 hfz45_BK1_2 hcz45_BK12_0 hfz45_BK12_0 hcz45_BK12_1 hfz45_BK12_1 hcz45_BK12_2 hfz45_BK12_2 hcz45_BK12_3 hfz45_BK12_3); have hcz47_BK1_0 : w46_.cell? ⟨gb1_, 0, none⟩ = some (.int .i64 a1) := (blk_cell BK1.out 0).trans rfl; have hfz47_BK1_0 := blk_frozen BK1.out 0; have hcz47_BK1_1 : w46_.cell? ⟨gb1_, 1, none⟩ = some (.slice A1_1 l1_1.length c1_1) := (blk_cell BK1.out 1).trans rfl; have hfz47_BK1_1 := blk_frozen BK1.out 1; have hcz47_BK1_2 : w46_.cell? ⟨gb1_, 2, none⟩ = some (.slice A1_2 l1_2.length c1_2) := (blk_cell BK1.out 2).trans rfl; have hfz47_BK1_2 := blk_frozen BK1.out 2; have hcz47_BK12_0 : w46_.cell? ⟨gb12_, 0, none⟩ = some (.int .i64 r1_0) := (blk_cell BK12.out 0).trans rfl; have hfz47_BK12_0 := blk_frozen BK12.out 0; have hcz47_BK12_1 : w46_.cell? ⟨gb12_, 1, none⟩ = some (.int .i64 r1_1) := (blk_cell BK12.out 1).trans rfl; have hfz47_BK12_1 := blk_frozen BK12.out 1; have hcz47_BK12_2 : w46_.cell? ⟨gb12_, 2, none⟩ = some (.int .i64 r1_2) := (blk_cell BK12.out 2).trans rfl; have hfz47_BK12_2 := blk_frozen BK12.out 2; have hcz47_BK12_3 : w46_.cell? ⟨gb12_, 3, none⟩ = some (.int .i64 r1_3) := (blk_cell BK12.out 3).trans rfl; have hfz47_BK12_3 := blk_frozen BK12.out 3; have hcz47_BK46_0 : w46_.cell? ⟨gb46_, 0, none⟩ = some (.int .i64 0) := (blk_cell BK46.out 0).trans rfl; have hfz47_BK46_0 := blk_frozen BK46.out 0; have hcz47_BK46_1 : w46_.cell? ⟨gb46_, 1, none⟩ = some (.slice none 0 0) := (blk_cell BK46.out 1).trans rfl; have hfz47_BK46_1 := blk_frozen BK46.out 1; have hcz47_BK46_2 : w46_.cell? ⟨gb46_, 2, none⟩ = some (.slice none 0 0) := (blk_cell BK46.out 2).trans rfl; have hfz47_BK46_2 := blk_frozen BK46.out 2)
  | ((with_reducible refine gate_store (t := 36) (p := 9) rfl ?_); refine store_event (t := 36) (p := 9) (v := ?vo_w48_) (w1 := (((w46_.setCell ⟨gb46_, 0, none⟩ (.int .i64 a1)).setCell ⟨gb46_, 1, none⟩ (.slice (some ⟨g44_0_, 0, none⟩) l1_1.length (pad l1_1).length)).setCell ⟨gb46_, 2, none⟩ (.slice (some ⟨g44_1_, 0, none⟩) l1_2.length (pad l1_2).length))) ?hg ?ho ?hn ?hr ?_; (case ho => rfl); (case hg => rfl); (case hn => rfl); (case hr => first | (go_simp; done) | (go_simp; rfl)); intro w48_ hw; have hk := (((Kept.refl w46_ (fun k_ => k_ = gb46_)).setCell (p := ⟨gb46_, 0, none⟩) (.inl rfl) (.int .i64 a1)).setCell (p := ⟨gb46_, 1, none⟩) (.inl rfl) (.slice (some ⟨g44_0_, 0, none⟩) l1_1.length (pad l1_1).length)).setCell (p := ⟨gb46_, 2, none⟩) (.inl rfl) (.slice (some ⟨g44_1_, 0, none⟩) l1_2.length (pad l1_2).length); rw [← hw] at hk; have nO42_0_ := Aside0.mk (Kd.R_kept (kr O42_0) hk (fun k_ h1_ h2_ => by have := GB46.out; have := GB1.out; have := GB12.out; have := Q42_0.out; have := Q44_1.out; have := GB46.out; omega)); have nO44_0_ := Aside0.mk (Kd.R_kept (kr O44_0) hk (fun k_ h1_ h2_ => by have := GB46.out; have := GB1.out; have := GB12.out; have := Q42_0.out; have := Q44_1.out; have := GB46.out; omega)); have nO44_1_ := Aside0.mk (Kd.R_kept (kr O44_1) hk (fun k_ h1_ h2_ => by have := GB46.out; have := GB1.out; have := GB12.out; have := Q42_0.out; have := Q44_1.out; have := GB46.out; omega)); have nBK1_ : Aside0 (w48_.heap[gb1_]? = some (.cells #[.int .i64 a1, .slice A1_1 l1_1.length c1_1, .slice A1_2 l1_2.length c1_2] 25 (0, 0))) := ⟨by rw [hw]; exact (blk_far (blk_far (blk_far BK1.out (p := ⟨gb46_, 0, none⟩) NBBK1_46.out _) (p := ⟨gb46_, 1, none⟩) NBBK1_46.out _) (p := ⟨gb46_, 2, none⟩) NBBK1_46.out _)⟩; have nBK12_ : Aside0 (w48_.heap[gb12_]? = some (.cells #[.int .i64 r1_0, .int .i64 r1_1, .int .i64 r1_2, .int .i64 r1_3] 31 (0, 0))) := ⟨by rw [hw]; exact (blk_far (blk_far (blk_far BK12.out (p := ⟨gb46_, 0, none⟩) NBBK12_46.out _) (p := ⟨gb46_, 1, none⟩) NBBK12_46.out _) (p := ⟨gb46_, 2, none⟩) NBBK12_46.out _)⟩; have nBK46_ : Aside0 (w48_.heap[gb46_]? = some (.cells #[.int .i64 a1, .slice (some ⟨g44_0_, 0, none⟩) l1_1.length (pad l1_1).length, .slice (some ⟨g44_1_, 0, none⟩) l1_2.length (pad l1_2).length] 36 (0, 0))) := ⟨by rw [hw]; exact (blk_put (cs' := #[.int .i64 a1, .slice (some ⟨g44_0_, 0, none⟩) l1_1.length (pad l1_1).length, .slice (some ⟨g44_1_, 0, none⟩) l1_2.length (pad l1_2).length]) (blk_put (cs' := #[.int .i64 a1, .slice (some ⟨g44_0_, 0, none⟩) l1_1.length (pad l1_1).length, .slice none 0 0]) (blk_put (cs' := #[.int .i64 a1, .slice none 0 0, .slice none 0 0]) BK46.out 0 (.int .i64 a1) rfl) 1 (.slice (some ⟨g44_0_, 0, none⟩) l1_1.length (pad l1_1).length) rfl) 2 (.slice (some ⟨g44_1_, 0, none⟩) l1_2.length (pad l1_2).length) rfl)⟩; have z2_ := Aside0.mk (Nat.le_trans (by exact Z.out) hk.1); have z4_ : Aside0 (Below w.heap.size w w48_) := ⟨by rw [hw]; exact (below_set (below_set (below_set HB.out GE46.out) GE46.out) GE46.out)⟩; clear O42_0 O44_0 O44_1 BK1 BK12 BK46 HB Z; have O42_0 := nO42_0_; have O44_0 := nO44_0_; have O44_1 := nO44_1_; have BK1 := nBK1_; have BK12 := nBK12_; have BK46 := nBK46_; have HB := z4_; have Z := z2_; clear nO42_0_ nO44_0_ nO44_1_ nBK1_ nBK12_ nBK46_ z2_ z4_ hk hw; (try clear hcz47_BK1_0 hfz47_BK1_0 hcz47_BK1_1 hfz47_BK1_1 hcz47_BK1_2 hfz47_BK1_2 hcz47_BK12_0 hfz47_BK12_0 hcz47_BK12_1 hfz47_BK12_1 hcz47_BK12_2 hfz47_BK12_2 hcz47_BK12_3 hfz47_BK12_3 hcz47_BK46_0 hfz47_BK46_0 hcz47_BK46_1 hfz47_BK46_1 hcz47_BK46_2 hfz47_BK46_2); have hcz49_BK1_0 : w48_.cell? ⟨gb1_, 0, none⟩ = some (.int .i64 a1) := (blk_cell BK1.out 0).trans rfl; have hfz49_BK1_0 := blk_frozen BK1.out 0; have hcz49_BK1_1 : w48_.cell? ⟨gb1_, 1, none⟩ = some (.slice A1_1 l1_1.length c1_1) := (blk_cell BK1.out 1).trans rfl; have hfz49_BK1_1 := blk_frozen BK1.out 1; have hcz49_BK1_2 : w48_.cell? ⟨gb1_, 2, none⟩ = some (.slice A1_2 l1_2.length c1_2) := (blk_cell BK1.out 2).trans rfl; have hfz49_BK1_2 := blk_frozen BK1.out 2; have hcz49_BK12_0 : w48_.cell? ⟨gb12_, 0, none⟩ = some (.int .i64 r1_0) := (blk_cell BK12.out 0).trans rfl; have hfz49_BK12_0 := blk_frozen BK12.out 0; have hcz49_BK12_1 : w48_.cell? ⟨gb12_, 1, none⟩ = some (.int .i64 r1_1) := (blk_cell BK12.out 1).trans rfl; have hfz49_BK12_1 := blk_frozen BK12.out 1; have hcz49_BK12_2 : w48_.cell? ⟨gb12_, 2, none⟩ = some (.int .i64 r1_2) := (blk_cell BK12.out 2).trans rfl; have hfz49_BK12_2 := blk_frozen BK12.out 2; have hcz49_BK12_3 : w48_.cell? ⟨gb12_, 3, none⟩ = some (.int .i64 r1_3) := (blk_cell BK12.out 3).trans rfl; have hfz49_BK12_3 := blk_frozen BK12.out 3; have hcz49_BK46_0 : w48_.cell? ⟨gb46_, 0, none⟩ = some (.int .i64 a1) := (blk_cell BK46.out 0).trans rfl; have hfz49_BK46_0 := blk_frozen BK46.out 0; have hcz49_BK46_1 : w48_.cell? ⟨gb46_, 1, none⟩ = some (.slice (some ⟨g44_0_, 0, none⟩) l1_1.length (pad l1_1).length) := (blk_cell BK46.out 1).trans rfl; have hfz49_BK46_1 := blk_frozen BK46.out 1; have hcz49_BK46_2 : w48_.cell? ⟨gb46_, 2, none⟩ = some (.slice (some ⟨g44_1_, 0, none⟩) l1_2.length (pad l1_2).length) := (blk_cell BK46.out 2).trans rfl; have hfz49_BK46_2 := blk_frozen BK46.out 2)
  | ((with_reducible refine gate_callee (f := 10) rfl ?_); refine goesL_ (some 39) rfl rfl Tryz.func10 kf rfl #[.slice A42_ q0.length c42_, .agg #[.int .i64 a1, .slice (some ⟨g44_0_, 0, none⟩) l1_1.length (pad l1_1).length, .slice (some ⟨g44_1_, 0, none⟩) l1_2.length (pad l1_2).length]] rfl sm ?_; (with_reducible refine (impl_ValueOver.calls ki _ _ q0 a1 _ _ l1_1 _ _ l1_2 r1_0 r1_1 r1_2 r1_3 r2 _ ?side1 ?side2 ?side3 ?side4 ?side5 ?side6 HI.out).mono ?_); (case side1 => repeat (first | exact padr HP0.out O42_0.out | (with_reducible refine Kd.C_alloc ?_ _) | (with_reducible refine Kd.C_drewN ?_ _) | (with_reducible refine Kd.C_drew ?_))); (case side2 => exact padl HP0.out (Kd.R_reads' O42_0.out).2.1); (case side3 => repeat (first | exact pad_reads O44_0.out | (with_reducible refine Kd.C_alloc ?_ _) | (with_reducible refine Kd.C_drewN ?_ _) | (with_reducible refine Kd.C_drew ?_))); (case side4 => exact pad_le _); (case side5 => repeat (first | exact pad_reads O44_1.out | (with_reducible refine Kd.C_alloc ?_ _) | (with_reducible refine Kd.C_drewN ?_ _) | (with_reducible refine Kd.C_drew ?_))); (case side6 => exact pad_le _); rintro e w50_ ⟨rfl, hb⟩; refine ⟨_, rfl, ?_⟩; obtain ⟨z2_, z4_⟩ := still (by exact Z.out) bz hb; have nO42_0_ := Aside0.mk (Kd.R_below (kr O42_0) hb); have nO44_0_ := Aside0.mk (Kd.R_below (kr O44_0) hb); have nO44_1_ := Aside0.mk (Kd.R_below (kr O44_1) hb); have nBK1_ := bb BK1 hb; have nBK12_ := bb BK12 hb; have nBK46_ := bb BK46 hb; clear O42_0 O44_0 O44_1 BK1 BK12 BK46 HB Z; have O42_0 := nO42_0_; have O44_0 := nO44_0_; have O44_1 := nO44_1_; have BK1 := nBK1_; have BK12 := nBK12_; have BK46 := nBK46_; clear nO42_0_ nO44_0_ nO44_1_ nBK1_ nBK12_ nBK46_; have HB := Aside0.mk z4_; have Z := Aside0.mk z2_; clear z2_ z4_ hb; (try clear hcz49_BK1_0 hfz49_BK1_0 hcz49_BK1_1 hfz49_BK1_1 hcz49_BK1_2 hfz49_BK1_2 hcz49_BK12_0 hfz49_BK12_0 hcz49_BK12_1 hfz49_BK12_1 hcz49_BK12_2 hfz49_BK12_2 hcz49_BK12_3 hfz49_BK12_3 hcz49_BK46_0 hfz49_BK46_0 hcz49_BK46_1 hfz49_BK46_1 hcz49_BK46_2 hfz49_BK46_2); have hcz51_BK1_0 : w50_.cell? ⟨gb1_, 0, none⟩ = some (.int .i64 a1) := (blk_cell BK1.out 0).trans rfl; have hfz51_BK1_0 := blk_frozen BK1.out 0; have hcz51_BK1_1 : w50_.cell? ⟨gb1_, 1, none⟩ = some (.slice A1_1 l1_1.length c1_1) := (blk_cell BK1.out 1).trans rfl; have hfz51_BK1_1 := blk_frozen BK1.out 1; have hcz51_BK1_2 : w50_.cell? ⟨gb1_, 2, none⟩ = some (.slice A1_2 l1_2.length c1_2) := (blk_cell BK1.out 2).trans rfl; have hfz51_BK1_2 := blk_frozen BK1.out 2; have hcz51_BK12_0 : w50_.cell? ⟨gb12_, 0, none⟩ = some (.int .i64 r1_0) := (blk_cell BK12.out 0).trans rfl; have hfz51_BK12_0 := blk_frozen BK12.out 0; have hcz51_BK12_1 : w50_.cell? ⟨gb12_, 1, none⟩ = some (.int .i64 r1_1) := (blk_cell BK12.out 1).trans rfl; have hfz51_BK12_1 := blk_frozen BK12.out 1; have hcz51_BK12_2 : w50_.cell? ⟨gb12_, 2, none⟩ = some (.int .i64 r1_2) := (blk_cell BK12.out 2).trans rfl; have hfz51_BK12_2 := blk_frozen BK12.out 2; have hcz51_BK12_3 : w50_.cell? ⟨gb12_, 3, none⟩ = some (.int .i64 r1_3) := (blk_cell BK12.out 3).trans rfl; have hfz51_BK12_3 := blk_frozen BK12.out 3; have hcz51_BK46_0 : w50_.cell? ⟨gb46_, 0, none⟩ = some (.int .i64 a1) := (blk_cell BK46.out 0).trans rfl; have hfz51_BK46_0 := blk_frozen BK46.out 0; have hcz51_BK46_1 : w50_.cell? ⟨gb46_, 1, none⟩ = some (.slice (some ⟨g44_0_, 0, none⟩) l1_1.length (pad l1_1).length) := (blk_cell BK46.out 1).trans rfl; have hfz51_BK46_1 := blk_frozen BK46.out 1; have hcz51_BK46_2 : w50_.cell? ⟨gb46_, 2, none⟩ = some (.slice (some ⟨g44_1_, 0, none⟩) l1_2.length (pad l1_2).length) := (blk_cell BK46.out 2).trans rfl; have hfz51_BK46_2 := blk_frozen BK46.out 2)
  | ((with_reducible refine gate_dst (N := 10) rfl ?_); refine bv (N := 10) (cs := #[.int .i64 0, .int .i64 0, .int .i64 0, .int .i64 0]) (t := 31) ?_; intro gb52_ hg w52_ hbox hb; obtain ⟨z2_, z4_⟩ := still (by exact Z.out) bz hb; have GB52 : Aside0 ((gb46_ + 1) ≤ gb52_) := ⟨by rw [hg]; exact Z.out⟩; have GE52 : Aside0 (w.heap.size ≤ gb52_) := ⟨by rw [hg]; exact (below_size bz)⟩; have NBBK1_52 : Aside0 (gb1_ ≠ gb52_) := ⟨by rw [hg]; exact Nat.ne_of_lt (blk_lt (w := _) (o := .cells #[.int .i64 a1, .slice A1_1 l1_1.length c1_1, .slice A1_2 l1_2.length c1_2] 25 (0, 0)) (bk BK1))⟩; have NBBK12_52 : Aside0 (gb12_ ≠ gb52_) := ⟨by rw [hg]; exact Nat.ne_of_lt (blk_lt (w := _) (o := .cells #[.int .i64 r1_0, .int .i64 r1_1, .int .i64 r1_2, .int .i64 r1_3] 31 (0, 0)) (bk BK12))⟩; have NBBK46_52 : Aside0 (gb46_ ≠ gb52_) := ⟨by rw [hg]; exact Nat.ne_of_lt (blk_lt (w := _) (o := .cells #[.int .i64 a1, .slice (some ⟨g44_0_, 0, none⟩) l1_1.length (pad l1_1).length, .slice (some ⟨g44_1_, 0, none⟩) l1_2.length (pad l1_2).length] 36 (0, 0)) (bk BK46))⟩; have nO42_0_ := Aside0.mk (Kd.R_below (kr O42_0) hb); have nO44_0_ := Aside0.mk (Kd.R_below (kr O44_0) hb); have nO44_1_ := Aside0.mk (Kd.R_below (kr O44_1) hb); have nBK1_ := bb BK1 hb; have nBK12_ := bb BK12 hb; have nBK46_ := bb BK46 hb; have BK52 := Aside0.mk hbox; clear O42_0 O44_0 O44_1 BK1 BK12 BK46 HB Z; have O42_0 := nO42_0_; have O44_0 := nO44_0_; have O44_1 := nO44_1_; have BK1 := nBK1_; have BK12 := nBK12_; have BK46 := nBK46_; clear nO42_0_ nO44_0_ nO44_1_ nBK1_ nBK12_ nBK46_; have zb_ : gb52_ + 1 ≤ w52_.heap.size := blk_lt BK52.out; have HB := Aside0.mk z4_; have Z := Aside0.mk zb_; clear z2_ z4_ zb_ hb hg hbox; (try clear hcz51_BK1_0 hfz51_BK1_0 hcz51_BK1_1 hfz51_BK1_1 hcz51_BK1_2 hfz51_BK1_2 hcz51_BK12_0 hfz51_BK12_0 hcz51_BK12_1 hfz51_BK12_1 hcz51_BK12_2 hfz51_BK12_2 hcz51_BK12_3 hfz51_BK12_3 hcz51_BK46_0 hfz51_BK46_0 hcz51_BK46_1 hfz51_BK46_1 hcz51_BK46_2 hfz51_BK46_2); have hcz53_BK1_0 : w52_.cell? ⟨gb1_, 0, none⟩ = some (.int .i64 a1) := (blk_cell BK1.out 0).trans rfl; have hfz53_BK1_0 := blk_frozen BK1.out 0; have hcz53_BK1_1 : w52_.cell? ⟨gb1_, 1, none⟩ = some (.slice A1_1 l1_1.length c1_1) := (blk_cell BK1.out 1).trans rfl; have hfz53_BK1_1 := blk_frozen BK1.out 1; have hcz53_BK1_2 : w52_.cell? ⟨gb1_, 2, none⟩ = some (.slice A1_2 l1_2.length c1_2) := (blk_cell BK1.out 2).trans rfl; have hfz53_BK1_2 := blk_frozen BK1.out 2; have hcz53_BK12_0 : w52_.cell? ⟨gb12_, 0, none⟩ = some (.int .i64 r1_0) := (blk_cell BK12.out 0).trans rfl; have hfz53_BK12_0 := blk_frozen BK12.out 0; have hcz53_BK12_1 : w52_.cell? ⟨gb12_, 1, none⟩ = some (.int .i64 r1_1) := (blk_cell BK12.out 1).trans rfl; have hfz53_BK12_1 := blk_frozen BK12.out 1; have hcz53_BK12_2 : w52_.cell? ⟨gb12_, 2, none⟩ = some (.int .i64 r1_2) := (blk_cell BK12.out 2).trans rfl; have hfz53_BK12_2 := blk_frozen BK12.out 2; have hcz53_BK12_3 : w52_.cell? ⟨gb12_, 3, none⟩ = some (.int .i64 r1_3) := (blk_cell BK12.out 3).trans rfl; have hfz53_BK12_3 := blk_frozen BK12.out 3; have hcz53_BK46_0 : w52_.cell? ⟨gb46_, 0, none⟩ = some (.int .i64 a1) := (blk_cell BK46.out 0).trans rfl; have hfz53_BK46_0 := blk_frozen BK46.out 0; have hcz53_BK46_1 : w52_.cell? ⟨gb46_, 1, none⟩ = some (.slice (some ⟨g44_0_, 0, none⟩) l1_1.length (pad l1_1).length) := (blk_cell BK46.out 1).trans rfl; have hfz53_BK46_1 := blk_frozen BK46.out 1; have hcz53_BK46_2 : w52_.cell? ⟨gb46_, 2, none⟩ = some (.slice (some ⟨g44_1_, 0, none⟩) l1_2.length (pad l1_2).length) := (blk_cell BK46.out 2).trans rfl; have hfz53_BK46_2 := blk_frozen BK46.out 2; have hcz53_BK52_0 : w52_.cell? ⟨gb52_, 0, none⟩ = some (.int .i64 0) := (blk_cell BK52.out 0).trans rfl; have hfz53_BK52_0 := blk_frozen BK52.out 0; have hcz53_BK52_1 : w52_.cell? ⟨gb52_, 1, none⟩ = some (.int .i64 0) := (blk_cell BK52.out 1).trans rfl; have hfz53_BK52_1 := blk_frozen BK52.out 1; have hcz53_BK52_2 : w52_.cell? ⟨gb52_, 2, none⟩ = some (.int .i64 0) := (blk_cell BK52.out 2).trans rfl; have hfz53_BK52_2 := blk_frozen BK52.out 2; have hcz53_BK52_3 : w52_.cell? ⟨gb52_, 3, none⟩ = some (.int .i64 0) := (blk_cell BK52.out 3).trans rfl; have hfz53_BK52_3 := blk_frozen BK52.out 3)
  | ((with_reducible refine gate_store (t := 31) (p := 10) rfl ?_); refine store_event (t := 31) (p := 10) (v := ?vo_w54_) (w1 := ((((w52_.setCell ⟨gb52_, 0, none⟩ (.int .i64 r1_0)).setCell ⟨gb52_, 1, none⟩ (.int .i64 r1_1)).setCell ⟨gb52_, 2, none⟩ (.int .i64 r1_2)).setCell ⟨gb52_, 3, none⟩ (.int .i64 r1_3))) ?hg ?ho ?hn ?hr ?_; (case ho => rfl); (case hg => rfl); (case hn => rfl); (case hr => first | (go_simp; done) | (go_simp; rfl)); intro w54_ hw; have hk := ((((Kept.refl w52_ (fun k_ => k_ = gb52_)).setCell (p := ⟨gb52_, 0, none⟩) (.inl rfl) (.int .i64 r1_0)).setCell (p := ⟨gb52_, 1, none⟩) (.inl rfl) (.int .i64 r1_1)).setCell (p := ⟨gb52_, 2, none⟩) (.inl rfl) (.int .i64 r1_2)).setCell (p := ⟨gb52_, 3, none⟩) (.inl rfl) (.int .i64 r1_3); rw [← hw] at hk; have nO42_0_ := Aside0.mk (Kd.R_kept (kr O42_0) hk (fun k_ h1_ h2_ => by have := GB52.out; have := GB1.out; have := GB12.out; have := Q42_0.out; have := Q44_1.out; have := GB46.out; have := GB52.out; omega)); have nO44_0_ := Aside0.mk (Kd.R_kept (kr O44_0) hk (fun k_ h1_ h2_ => by have := GB52.out; have := GB1.out; have := GB12.out; have := Q42_0.out; have := Q44_1.out; have := GB46.out; have := GB52.out; omega)); have nO44_1_ := Aside0.mk (Kd.R_kept (kr O44_1) hk (fun k_ h1_ h2_ => by have := GB52.out; have := GB1.out; have := GB12.out; have := Q42_0.out; have := Q44_1.out; have := GB46.out; have := GB52.out; omega)); have nBK1_ : Aside0 (w54_.heap[gb1_]? = some (.cells #[.int .i64 a1, .slice A1_1 l1_1.length c1_1, .slice A1_2 l1_2.length c1_2] 25 (0, 0))) := ⟨by rw [hw]; exact (blk_far (blk_far (blk_far (blk_far BK1.out (p := ⟨gb52_, 0, none⟩) NBBK1_52.out _) (p := ⟨gb52_, 1, none⟩) NBBK1_52.out _) (p := ⟨gb52_, 2, none⟩) NBBK1_52.out _) (p := ⟨gb52_, 3, none⟩) NBBK1_52.out _)⟩; have nBK12_ : Aside0 (w54_.heap[gb12_]? = some (.cells #[.int .i64 r1_0, .int .i64 r1_1, .int .i64 r1_2, .int .i64 r1_3] 31 (0, 0))) := ⟨by rw [hw]; exact (blk_far (blk_far (blk_far (blk_far BK12.out (p := ⟨gb52_, 0, none⟩) NBBK12_52.out _) (p := ⟨gb52_, 1, none⟩) NBBK12_52.out _) (p := ⟨gb52_, 2, none⟩) NBBK12_52.out _) (p := ⟨gb52_, 3, none⟩) NBBK12_52.out _)⟩; have nBK46_ : Aside0 (w54_.heap[gb46_]? = some (.cells #[.int .i64 a1, .slice (some ⟨g44_0_, 0, none⟩) l1_1.length (pad l1_1).length, .slice (some ⟨g44_1_, 0, none⟩) l1_2.length (pad l1_2).length] 36 (0, 0))) := ⟨by rw [hw]; exact (blk_far (blk_far (blk_far (blk_far BK46.out (p := ⟨gb52_, 0, none⟩) NBBK46_52.out _) (p := ⟨gb52_, 1, none⟩) NBBK46_52.out _) (p := ⟨gb52_, 2, none⟩) NBBK46_52.out _) (p := ⟨gb52_, 3, none⟩) NBBK46_52.out _)⟩; have nBK52_ : Aside0 (w54_.heap[gb52_]? = some (.cells #[.int .i64 r1_0, .int .i64 r1_1, .int .i64 r1_2, .int .i64 r1_3] 31 (0, 0))) := ⟨by rw [hw]; exact (blk_put (cs' := #[.int .i64 r1_0, .int .i64 r1_1, .int .i64 r1_2, .int .i64 r1_3]) (blk_put (cs' := #[.int .i64 r1_0, .int .i64 r1_1, .int .i64 r1_2, .int .i64 0]) (blk_put (cs' := #[.int .i64 r1_0, .int .i64 r1_1, .int .i64 0, .int .i64 0]) (blk_put (cs' := #[.int .i64 r1_0, .int .i64 0, .int .i64 0, .int .i64 0]) BK52.out 0 (.int .i64 r1_0) rfl) 1 (.int .i64 r1_1) rfl) 2 (.int .i64 r1_2) rfl) 3 (.int .i64 r1_3) rfl)⟩; have z2_ := Aside0.mk (Nat.le_trans (by exact Z.out) hk.1); have z4_ : Aside0 (Below w.heap.size w w54_) := ⟨by rw [hw]; exact (below_set (below_set (below_set (below_set HB.out GE52.out) GE52.out) GE52.out) GE52.out)⟩; clear O42_0 O44_0 O44_1 BK1 BK12 BK46 BK52 HB Z; have O42_0 := nO42_0_; have O44_0 := nO44_0_; have O44_1 := nO44_1_; have BK1 := nBK1_; have BK12 := nBK12_; have BK46 := nBK46_; have BK52 := nBK52_; have HB := z4_; have Z := z2_; clear nO42_0_ nO44_0_ nO44_1_ nBK1_ nBK12_ nBK46_ nBK52_ z2_ z4_ hk hw; (try clear hcz53_BK1_0 hfz53_BK1_0 hcz53_BK1_1 hfz53_BK1_1 hcz53_BK1_2 hfz53_BK1_2 hcz53_BK12_0 hfz53_BK12_0 hcz53_BK12_1 hfz53_BK12_1 hcz53_BK12_2 hfz53_BK12_2 hcz53_BK12_3 hfz53_BK12_3 hcz53_BK46_0 hfz53_BK46_0 hcz53_BK46_1 hfz53_BK46_1 hcz53_BK46_2 hfz53_BK46_2 hcz53_BK52_0 hfz53_BK52_0 hcz53_BK52_1 hfz53_BK52_1 hcz53_BK52_2 hfz53_BK52_2 hcz53_BK52_3 hfz53_BK52_3); have hcz55_BK1_0 : w54_.cell? ⟨gb1_, 0, none⟩ = some (.int .i64 a1) := (blk_cell BK1.out 0).trans rfl; have hfz55_BK1_0 := blk_frozen BK1.out 0; have hcz55_BK1_1 : w54_.cell? ⟨gb1_, 1, none⟩ = some (.slice A1_1 l1_1.length c1_1) := (blk_cell BK1.out 1).trans rfl; have hfz55_BK1_1 := blk_frozen BK1.out 1; have hcz55_BK1_2 : w54_.cell? ⟨gb1_, 2, none⟩ = some (.slice A1_2 l1_2.length c1_2) := (blk_cell BK1.out 2).trans rfl; have hfz55_BK1_2 := blk_frozen BK1.out 2; have hcz55_BK12_0 : w54_.cell? ⟨gb12_, 0, none⟩ = some (.int .i64 r1_0) := (blk_cell BK12.out 0).trans rfl; have hfz55_BK12_0 := blk_frozen BK12.out 0; have hcz55_BK12_1 : w54_.cell? ⟨gb12_, 1, none⟩ = some (.int .i64 r1_1) := (blk_cell BK12.out 1).trans rfl; have hfz55_BK12_1 := blk_frozen BK12.out 1; have hcz55_BK12_2 : w54_.cell? ⟨gb12_, 2, none⟩ = some (.int .i64 r1_2) := (blk_cell BK12.out 2).trans rfl; have hfz55_BK12_2 := blk_frozen BK12.out 2; have hcz55_BK12_3 : w54_.cell? ⟨gb12_, 3, none⟩ = some (.int .i64 r1_3) := (blk_cell BK12.out 3).trans rfl; have hfz55_BK12_3 := blk_frozen BK12.out 3; have hcz55_BK46_0 : w54_.cell? ⟨gb46_, 0, none⟩ = some (.int .i64 a1) := (blk_cell BK46.out 0).trans rfl; have hfz55_BK46_0 := blk_frozen BK46.out 0; have hcz55_BK46_1 : w54_.cell? ⟨gb46_, 1, none⟩ = some (.slice (some ⟨g44_0_, 0, none⟩) l1_1.length (pad l1_1).length) := (blk_cell BK46.out 1).trans rfl; have hfz55_BK46_1 := blk_frozen BK46.out 1; have hcz55_BK46_2 : w54_.cell? ⟨gb46_, 2, none⟩ = some (.slice (some ⟨g44_1_, 0, none⟩) l1_2.length (pad l1_2).length) := (blk_cell BK46.out 2).trans rfl; have hfz55_BK46_2 := blk_frozen BK46.out 2; have hcz55_BK52_0 : w54_.cell? ⟨gb52_, 0, none⟩ = some (.int .i64 r1_0) := (blk_cell BK52.out 0).trans rfl; have hfz55_BK52_0 := blk_frozen BK52.out 0; have hcz55_BK52_1 : w54_.cell? ⟨gb52_, 1, none⟩ = some (.int .i64 r1_1) := (blk_cell BK52.out 1).trans rfl; have hfz55_BK52_1 := blk_frozen BK52.out 1; have hcz55_BK52_2 : w54_.cell? ⟨gb52_, 2, none⟩ = some (.int .i64 r1_2) := (blk_cell BK52.out 2).trans rfl; have hfz55_BK52_2 := blk_frozen BK52.out 2; have hcz55_BK52_3 : w54_.cell? ⟨gb52_, 3, none⟩ = some (.int .i64 r1_3) := (blk_cell BK52.out 3).trans rfl; have hfz55_BK52_3 := blk_frozen BK52.out 3)
  | ((with_reducible refine gate_callee (f := 11) rfl ?_); refine goesL_ (some 44) rfl rfl Tryz.func11 kf rfl #[.agg #[.int .i64 r1_0, .int .i64 r1_1, .int .i64 r1_2, .int .i64 r1_3], .agg #[.int .i64 r1_0, .int .i64 r1_1, .int .i64 r1_2, .int .i64 r1_3]] rfl sm ?_; (with_reducible refine (laws_eqInterval.calls r1_0 r1_1 r1_2 r1_3 r1_0 r1_1 r1_2 r1_3 true _ HEQInterval.out).mono ?_); rintro e w56_ ⟨rfl, hb⟩; refine ⟨_, rfl, ?_⟩; obtain ⟨z2_, z4_⟩ := still (by exact Z.out) bz hb; have nO42_0_ := Aside0.mk (Kd.R_below (kr O42_0) hb); have nO44_0_ := Aside0.mk (Kd.R_below (kr O44_0) hb); have nO44_1_ := Aside0.mk (Kd.R_below (kr O44_1) hb); have nBK1_ := bb BK1 hb; have nBK12_ := bb BK12 hb; have nBK46_ := bb BK46 hb; have nBK52_ := bb BK52 hb; clear O42_0 O44_0 O44_1 BK1 BK12 BK46 BK52 HB Z; have O42_0 := nO42_0_; have O44_0 := nO44_0_; have O44_1 := nO44_1_; have BK1 := nBK1_; have BK12 := nBK12_; have BK46 := nBK46_; have BK52 := nBK52_; clear nO42_0_ nO44_0_ nO44_1_ nBK1_ nBK12_ nBK46_ nBK52_; have HB := Aside0.mk z4_; have Z := Aside0.mk z2_; clear z2_ z4_ hb; (try clear hcz55_BK1_0 hfz55_BK1_0 hcz55_BK1_1 hfz55_BK1_1 hcz55_BK1_2 hfz55_BK1_2 hcz55_BK12_0 hfz55_BK12_0 hcz55_BK12_1 hfz55_BK12_1 hcz55_BK12_2 hfz55_BK12_2 hcz55_BK12_3 hfz55_BK12_3 hcz55_BK46_0 hfz55_BK46_0 hcz55_BK46_1 hfz55_BK46_1 hcz55_BK46_2 hfz55_BK46_2 hcz55_BK52_0 hfz55_BK52_0 hcz55_BK52_1 hfz55_BK52_1 hcz55_BK52_2 hfz55_BK52_2 hcz55_BK52_3 hfz55_BK52_3); have hcz57_BK1_0 : w56_.cell? ⟨gb1_, 0, none⟩ = some (.int .i64 a1) := (blk_cell BK1.out 0).trans rfl; have hfz57_BK1_0 := blk_frozen BK1.out 0; have hcz57_BK1_1 : w56_.cell? ⟨gb1_, 1, none⟩ = some (.slice A1_1 l1_1.length c1_1) := (blk_cell BK1.out 1).trans rfl; have hfz57_BK1_1 := blk_frozen BK1.out 1; have hcz57_BK1_2 : w56_.cell? ⟨gb1_, 2, none⟩ = some (.slice A1_2 l1_2.length c1_2) := (blk_cell BK1.out 2).trans rfl; have hfz57_BK1_2 := blk_frozen BK1.out 2; have hcz57_BK12_0 : w56_.cell? ⟨gb12_, 0, none⟩ = some (.int .i64 r1_0) := (blk_cell BK12.out 0).trans rfl; have hfz57_BK12_0 := blk_frozen BK12.out 0; have hcz57_BK12_1 : w56_.cell? ⟨gb12_, 1, none⟩ = some (.int .i64 r1_1) := (blk_cell BK12.out 1).trans rfl; have hfz57_BK12_1 := blk_frozen BK12.out 1; have hcz57_BK12_2 : w56_.cell? ⟨gb12_, 2, none⟩ = some (.int .i64 r1_2) := (blk_cell BK12.out 2).trans rfl; have hfz57_BK12_2 := blk_frozen BK12.out 2; have hcz57_BK12_3 : w56_.cell? ⟨gb12_, 3, none⟩ = some (.int .i64 r1_3) := (blk_cell BK12.out 3).trans rfl; have hfz57_BK12_3 := blk_frozen BK12.out 3; have hcz57_BK46_0 : w56_.cell? ⟨gb46_, 0, none⟩ = some (.int .i64 a1) := (blk_cell BK46.out 0).trans rfl; have hfz57_BK46_0 := blk_frozen BK46.out 0; have hcz57_BK46_1 : w56_.cell? ⟨gb46_, 1, none⟩ = some (.slice (some ⟨g44_0_, 0, none⟩) l1_1.length (pad l1_1).length) := (blk_cell BK46.out 1).trans rfl; have hfz57_BK46_1 := blk_frozen BK46.out 1; have hcz57_BK46_2 : w56_.cell? ⟨gb46_, 2, none⟩ = some (.slice (some ⟨g44_1_, 0, none⟩) l1_2.length (pad l1_2).length) := (blk_cell BK46.out 2).trans rfl; have hfz57_BK46_2 := blk_frozen BK46.out 2; have hcz57_BK52_0 : w56_.cell? ⟨gb52_, 0, none⟩ = some (.int .i64 r1_0) := (blk_cell BK52.out 0).trans rfl; have hfz57_BK52_0 := blk_frozen BK52.out 0; have hcz57_BK52_1 : w56_.cell? ⟨gb52_, 1, none⟩ = some (.int .i64 r1_1) := (blk_cell BK52.out 1).trans rfl; have hfz57_BK52_1 := blk_frozen BK52.out 1; have hcz57_BK52_2 : w56_.cell? ⟨gb52_, 2, none⟩ = some (.int .i64 r1_2) := (blk_cell BK52.out 2).trans rfl; have hfz57_BK52_2 := blk_frozen BK52.out 2; have hcz57_BK52_3 : w56_.cell? ⟨gb52_, 3, none⟩ = some (.int .i64 r1_3) := (blk_cell BK52.out 3).trans rfl; have hfz57_BK52_3 := blk_frozen BK52.out 3)
  | ((with_reducible refine gate_callee (f := 8) rfl ?_); refine goesL_ (some 53) rfl rfl Tryz.func8 kf rfl #[.slice A0 l0.length c0, .bool false] rfl sm ?_; (with_reducible refine (toTermS_pad kw0 _ _ l0 q0 P0 _ ?side1 ?side2 HW0.out HQL0.out).mono ?_); (case side1 => repeat (first | exact HR0.out | exact (Kd.C_below HR0.out bz) | (with_reducible refine Kd.C_alloc ?_ _) | (with_reducible refine Kd.C_drewN ?_ _) | (with_reducible refine Kd.C_drew ?_))); (case side2 => exact HC0.out); rintro e w58_ ⟨A58_, c58_, rfl, ho0, hb⟩; refine ⟨_, rfl, ?_⟩; obtain ⟨a58_0_, b58_0_, z1_, z2_, zo0_, z4_⟩ := made (by exact Z.out) bz hb ho0; have nO42_0_ := Aside0.mk (Kd.R_below (kr O42_0) hb); have nO44_0_ := Aside0.mk (Kd.R_below (kr O44_0) hb); have nO44_1_ := Aside0.mk (Kd.R_below (kr O44_1) hb); have nBK1_ := bb BK1 hb; have nBK12_ := bb BK12 hb; have nBK46_ := bb BK46 hb; have nBK52_ := bb BK52 hb; clear O42_0 O44_0 O44_1 BK1 BK12 BK46 BK52 HB Z; have O42_0 := nO42_0_; have O44_0 := nO44_0_; have O44_1 := nO44_1_; have BK1 := nBK1_; have BK12 := nBK12_; have BK46 := nBK46_; have BK52 := nBK52_; clear nO42_0_ nO44_0_ nO44_1_ nBK1_ nBK12_ nBK46_ nBK52_; have O58_0 := Aside0.mk zo0_; have Q58_0 := Aside0.mk z1_; have HB := Aside0.mk z4_; have Z := Aside0.mk z2_; clear z1_ z2_ z4_ hb ho0 zo0_; (try clear hcz57_BK1_0 hfz57_BK1_0 hcz57_BK1_1 hfz57_BK1_1 hcz57_BK1_2 hfz57_BK1_2 hcz57_BK12_0 hfz57_BK12_0 hcz57_BK12_1 hfz57_BK12_1 hcz57_BK12_2 hfz57_BK12_2 hcz57_BK12_3 hfz57_BK12_3 hcz57_BK46_0 hfz57_BK46_0 hcz57_BK46_1 hfz57_BK46_1 hcz57_BK46_2 hfz57_BK46_2 hcz57_BK52_0 hfz57_BK52_0 hcz57_BK52_1 hfz57_BK52_1 hcz57_BK52_2 hfz57_BK52_2 hcz57_BK52_3 hfz57_BK52_3); have hcz59_BK1_0 : w58_.cell? ⟨gb1_, 0, none⟩ = some (.int .i64 a1) := (blk_cell BK1.out 0).trans rfl; have hfz59_BK1_0 := blk_frozen BK1.out 0; have hcz59_BK1_1 : w58_.cell? ⟨gb1_, 1, none⟩ = some (.slice A1_1 l1_1.length c1_1) := (blk_cell BK1.out 1).trans rfl; have hfz59_BK1_1 := blk_frozen BK1.out 1; have hcz59_BK1_2 : w58_.cell? ⟨gb1_, 2, none⟩ = some (.slice A1_2 l1_2.length c1_2) := (blk_cell BK1.out 2).trans rfl; have hfz59_BK1_2 := blk_frozen BK1.out 2; have hcz59_BK12_0 : w58_.cell? ⟨gb12_, 0, none⟩ = some (.int .i64 r1_0) := (blk_cell BK12.out 0).trans rfl; have hfz59_BK12_0 := blk_frozen BK12.out 0; have hcz59_BK12_1 : w58_.cell? ⟨gb12_, 1, none⟩ = some (.int .i64 r1_1) := (blk_cell BK12.out 1).trans rfl; have hfz59_BK12_1 := blk_frozen BK12.out 1; have hcz59_BK12_2 : w58_.cell? ⟨gb12_, 2, none⟩ = some (.int .i64 r1_2) := (blk_cell BK12.out 2).trans rfl; have hfz59_BK12_2 := blk_frozen BK12.out 2; have hcz59_BK12_3 : w58_.cell? ⟨gb12_, 3, none⟩ = some (.int .i64 r1_3) := (blk_cell BK12.out 3).trans rfl; have hfz59_BK12_3 := blk_frozen BK12.out 3; have hcz59_BK46_0 : w58_.cell? ⟨gb46_, 0, none⟩ = some (.int .i64 a1) := (blk_cell BK46.out 0).trans rfl; have hfz59_BK46_0 := blk_frozen BK46.out 0; have hcz59_BK46_1 : w58_.cell? ⟨gb46_, 1, none⟩ = some (.slice (some ⟨g44_0_, 0, none⟩) l1_1.length (pad l1_1).length) := (blk_cell BK46.out 1).trans rfl; have hfz59_BK46_1 := blk_frozen BK46.out 1; have hcz59_BK46_2 : w58_.cell? ⟨gb46_, 2, none⟩ = some (.slice (some ⟨g44_1_, 0, none⟩) l1_2.length (pad l1_2).length) := (blk_cell BK46.out 2).trans rfl; have hfz59_BK46_2 := blk_frozen BK46.out 2; have hcz59_BK52_0 : w58_.cell? ⟨gb52_, 0, none⟩ = some (.int .i64 r1_0) := (blk_cell BK52.out 0).trans rfl; have hfz59_BK52_0 := blk_frozen BK52.out 0; have hcz59_BK52_1 : w58_.cell? ⟨gb52_, 1, none⟩ = some (.int .i64 r1_1) := (blk_cell BK52.out 1).trans rfl; have hfz59_BK52_1 := blk_frozen BK52.out 1; have hcz59_BK52_2 : w58_.cell? ⟨gb52_, 2, none⟩ = some (.int .i64 r1_2) := (blk_cell BK52.out 2).trans rfl; have hfz59_BK52_2 := blk_frozen BK52.out 2; have hcz59_BK52_3 : w58_.cell? ⟨gb52_, 3, none⟩ = some (.int .i64 r1_3) := (blk_cell BK52.out 3).trans rfl; have hfz59_BK52_3 := blk_frozen BK52.out 3)
  | ((with_reducible refine gate_callee (f := 12) rfl ?_); refine goesL_ (some 54) rfl rfl Tryz.func12 kf rfl #[.slice A42_ q0.length c42_, .slice A58_ q0.length c58_] rfl sm ?_; (with_reducible refine (laws_intactTermS.pad ke0 _ _ _ _ _ P0 _ ?side1 ?side2 ?side3 ?side4 HPL0.out HQN0.out HE0.out).mono ?_); (case side1 => exact (Kd.R_reads' (kr O42_0)).2.2); (case side2 => exact (Kd.R_reads' O42_0.out).2.1); (case side3 => exact (Kd.R_reads' (kr O58_0)).2.2); (case side4 => exact (Kd.R_reads' O58_0.out).2.1); rintro e w60_ ⟨rfl, hb⟩; refine ⟨_, rfl, ?_⟩; obtain ⟨z2_, z4_⟩ := still (by exact Z.out) bz hb; have nO42_0_ := Aside0.mk (Kd.R_below (kr O42_0) hb); have nO44_0_ := Aside0.mk (Kd.R_below (kr O44_0) hb); have nO44_1_ := Aside0.mk (Kd.R_below (kr O44_1) hb); have nO58_0_ := Aside0.mk (Kd.R_below (kr O58_0) hb); have nBK1_ := bb BK1 hb; have nBK12_ := bb BK12 hb; have nBK46_ := bb BK46 hb; have nBK52_ := bb BK52 hb; clear O42_0 O44_0 O44_1 O58_0 BK1 BK12 BK46 BK52 HB Z; have O42_0 := nO42_0_; have O44_0 := nO44_0_; have O44_1 := nO44_1_; have O58_0 := nO58_0_; have BK1 := nBK1_; have BK12 := nBK12_; have BK46 := nBK46_; have BK52 := nBK52_; clear nO42_0_ nO44_0_ nO44_1_ nO58_0_ nBK1_ nBK12_ nBK46_ nBK52_; have HB := Aside0.mk z4_; have Z := Aside0.mk z2_; clear z2_ z4_ hb; (try clear hcz59_BK1_0 hfz59_BK1_0 hcz59_BK1_1 hfz59_BK1_1 hcz59_BK1_2 hfz59_BK1_2 hcz59_BK12_0 hfz59_BK12_0 hcz59_BK12_1 hfz59_BK12_1 hcz59_BK12_2 hfz59_BK12_2 hcz59_BK12_3 hfz59_BK12_3 hcz59_BK46_0 hfz59_BK46_0 hcz59_BK46_1 hfz59_BK46_1 hcz59_BK46_2 hfz59_BK46_2 hcz59_BK52_0 hfz59_BK52_0 hcz59_BK52_1 hfz59_BK52_1 hcz59_BK52_2 hfz59_BK52_2 hcz59_BK52_3 hfz59_BK52_3); have hcz61_BK1_0 : w60_.cell? ⟨gb1_, 0, none⟩ = some (.int .i64 a1) := (blk_cell BK1.out 0).trans rfl; have hfz61_BK1_0 := blk_frozen BK1.out 0; have hcz61_BK1_1 : w60_.cell? ⟨gb1_, 1, none⟩ = some (.slice A1_1 l1_1.length c1_1) := (blk_cell BK1.out 1).trans rfl; have hfz61_BK1_1 := blk_frozen BK1.out 1; have hcz61_BK1_2 : w60_.cell? ⟨gb1_, 2, none⟩ = some (.slice A1_2 l1_2.length c1_2) := (blk_cell BK1.out 2).trans rfl; have hfz61_BK1_2 := blk_frozen BK1.out 2; have hcz61_BK12_0 : w60_.cell? ⟨gb12_, 0, none⟩ = some (.int .i64 r1_0) := (blk_cell BK12.out 0).trans rfl; have hfz61_BK12_0 := blk_frozen BK12.out 0; have hcz61_BK12_1 : w60_.cell? ⟨gb12_, 1, none⟩ = some (.int .i64 r1_1) := (blk_cell BK12.out 1).trans rfl; have hfz61_BK12_1 := blk_frozen BK12.out 1; have hcz61_BK12_2 : w60_.cell? ⟨gb12_, 2, none⟩ = some (.int .i64 r1_2) := (blk_cell BK12.out 2).trans rfl; have hfz61_BK12_2 := blk_frozen BK12.out 2; have hcz61_BK12_3 : w60_.cell? ⟨gb12_, 3, none⟩ = some (.int .i64 r1_3) := (blk_cell BK12.out 3).trans rfl; have hfz61_BK12_3 := blk_frozen BK12.out 3; have hcz61_BK46_0 : w60_.cell? ⟨gb46_, 0, none⟩ = some (.int .i64 a1) := (blk_cell BK46.out 0).trans rfl; have hfz61_BK46_0 := blk_frozen BK46.out 0; have hcz61_BK46_1 : w60_.cell? ⟨gb46_, 1, none⟩ = some (.slice (some ⟨g44_0_, 0, none⟩) l1_1.length (pad l1_1).length) := (blk_cell BK46.out 1).trans rfl; have hfz61_BK46_1 := blk_frozen BK46.out 1; have hcz61_BK46_2 : w60_.cell? ⟨gb46_, 2, none⟩ = some (.slice (some ⟨g44_1_, 0, none⟩) l1_2.length (pad l1_2).length) := (blk_cell BK46.out 2).trans rfl; have hfz61_BK46_2 := blk_frozen BK46.out 2; have hcz61_BK52_0 : w60_.cell? ⟨gb52_, 0, none⟩ = some (.int .i64 r1_0) := (blk_cell BK52.out 0).trans rfl; have hfz61_BK52_0 := blk_frozen BK52.out 0; have hcz61_BK52_1 : w60_.cell? ⟨gb52_, 1, none⟩ = some (.int .i64 r1_1) := (blk_cell BK52.out 1).trans rfl; have hfz61_BK52_1 := blk_frozen BK52.out 1; have hcz61_BK52_2 : w60_.cell? ⟨gb52_, 2, none⟩ = some (.int .i64 r1_2) := (blk_cell BK52.out 2).trans rfl; have hfz61_BK52_2 := blk_frozen BK52.out 2; have hcz61_BK52_3 : w60_.cell? ⟨gb52_, 3, none⟩ = some (.int .i64 r1_3) := (blk_cell BK52.out 3).trans rfl; have hfz61_BK52_3 := blk_frozen BK52.out 3))
 try go_wp2
 refine start_ (n := 5) (S := fun w' => w'.cell? ⟨gb1_, 0, none⟩ = some (.int .i64 a1) ∧ w'.cell? ⟨gb1_, 1, none⟩ = some (.slice A1_1 l1_1.length c1_1) ∧ w'.cell? ⟨gb1_, 2, none⟩ = some (.slice A1_2 l1_2.length c1_2) ∧ w'.cell? ⟨gb12_, 0, none⟩ = some (.int .i64 r1_0) ∧ w'.cell? ⟨gb12_, 1, none⟩ = some (.int .i64 r1_1) ∧ w'.cell? ⟨gb12_, 2, none⟩ = some (.int .i64 r1_2) ∧ w'.cell? ⟨gb12_, 3, none⟩ = some (.int .i64 r1_3) ∧ w'.cell? ⟨gb46_, 0, none⟩ = some (.int .i64 a1) ∧ w'.cell? ⟨gb46_, 1, none⟩ = some (.slice (some ⟨g44_0_, 0, none⟩) l1_1.length (pad l1_1).length) ∧ w'.cell? ⟨gb46_, 2, none⟩ = some (.slice (some ⟨g44_1_, 0, none⟩) l1_2.length (pad l1_2).length) ∧ w'.cell? ⟨gb52_, 0, none⟩ = some (.int .i64 r1_0) ∧ w'.cell? ⟨gb52_, 1, none⟩ = some (.int .i64 r1_1) ∧ w'.cell? ⟨gb52_, 2, none⟩ = some (.int .i64 r1_2) ∧ w'.cell? ⟨gb52_, 3, none⟩ = some (.int .i64 r1_3)) (ds := []) #[fF, fF, fF, fF, fF] kf rfl rfl ⟨((blk_cell (g := gb1_) (cs := #[.int .i64 a1, .slice A1_1 l1_1.length c1_1, .slice A1_2 l1_2.length c1_2]) (t := 25) (bk BK1) 0).trans rfl), ((blk_cell (g := gb1_) (cs := #[.int .i64 a1, .slice A1_1 l1_1.length c1_1, .slice A1_2 l1_2.length c1_2]) (t := 25) (bk BK1) 1).trans rfl), ((blk_cell (g := gb1_) (cs := #[.int .i64 a1, .slice A1_1 l1_1.length c1_1, .slice A1_2 l1_2.length c1_2]) (t := 25) (bk BK1) 2).trans rfl), ((blk_cell (g := gb12_) (cs := #[.int .i64 r1_0, .int .i64 r1_1, .int .i64 r1_2, .int .i64 r1_3]) (t := 31) (bk BK12) 0).trans rfl), ((blk_cell (g := gb12_) (cs := #[.int .i64 r1_0, .int .i64 r1_1, .int .i64 r1_2, .int .i64 r1_3]) (t := 31) (bk BK12) 1).trans rfl), ((blk_cell (g := gb12_) (cs := #[.int .i64 r1_0, .int .i64 r1_1, .int .i64 r1_2, .int .i64 r1_3]) (t := 31) (bk BK12) 2).trans rfl), ((blk_cell (g := gb12_) (cs := #[.int .i64 r1_0, .int .i64 r1_1, .int .i64 r1_2, .int .i64 r1_3]) (t := 31) (bk BK12) 3).trans rfl), ((blk_cell (g := gb46_) (cs := #[.int .i64 a1, .slice (some ⟨g44_0_, 0, none⟩) l1_1.length (pad l1_1).length, .slice (some ⟨g44_1_, 0, none⟩) l1_2.length (pad l1_2).length]) (t := 36) (bk BK46) 0).trans rfl), ((blk_cell (g := gb46_) (cs := #[.int .i64 a1, .slice (some ⟨g44_0_, 0, none⟩) l1_1.length (pad l1_1).length, .slice (some ⟨g44_1_, 0, none⟩) l1_2.length (pad l1_2).length]) (t := 36) (bk BK46) 1).trans rfl), ((blk_cell (g := gb46_) (cs := #[.int .i64 a1, .slice (some ⟨g44_0_, 0, none⟩) l1_1.length (pad l1_1).length, .slice (some ⟨g44_1_, 0, none⟩) l1_2.length (pad l1_2).length]) (t := 36) (bk BK46) 2).trans rfl), ((blk_cell (g := gb52_) (cs := #[.int .i64 r1_0, .int .i64 r1_1, .int .i64 r1_2, .int .i64 r1_3]) (t := 31) (bk BK52) 0).trans rfl), ((blk_cell (g := gb52_) (cs := #[.int .i64 r1_0, .int .i64 r1_1, .int .i64 r1_2, .int .i64 r1_3]) (t := 31) (bk BK52) 1).trans rfl), ((blk_cell (g := gb52_) (cs := #[.int .i64 r1_0, .int .i64 r1_1, .int .i64 r1_2, .int .i64 r1_3]) (t := 31) (bk BK52) 2).trans rfl), ((blk_cell (g := gb52_) (cs := #[.int .i64 r1_0, .int .i64 r1_1, .int .i64 r1_2, .int .i64 r1_3]) (t := 31) (bk BK52) 3).trans rfl)⟩ (fun hHeld => ?_)
 generalize hq_ : World.drew _ = w62_ at hHeld ⊢
 have nO42_0_ : Aside0 (Kd.R k55 55 w62_ w.heap.size (fun k => a42_0_ ≤ k ∧ k < b42_0_) (.slice A42_ P0.length c42_) P0) := ⟨by rw [← hq_]; exact (kr O42_0)⟩
 have nO44_0_ : Aside0 (Kd.R (Kd.int .i64) 3 w62_ w.heap.size (fun k => a44_1_ ≤ k ∧ k < b44_1_) (.slice (some ⟨g44_0_, 0, none⟩) (pad l1_1).length (pad l1_1).length) (pad l1_1)) := ⟨by rw [← hq_]; exact (kr O44_0)⟩
 have nO44_1_ : Aside0 (Kd.R (Kd.int .i64) 3 w62_ w.heap.size (fun k => a44_1_ ≤ k ∧ k < b44_1_) (.slice (some ⟨g44_1_, 0, none⟩) (pad l1_2).length (pad l1_2).length) (pad l1_2)) := ⟨by rw [← hq_]; exact (kr O44_1)⟩
 have nO58_0_ : Aside0 (Kd.R k55 55 w62_ w.heap.size (fun k => a58_0_ ≤ k ∧ k < b58_0_) (.slice A58_ P0.length c58_) P0) := ⟨by rw [← hq_]; exact (kr O58_0)⟩
 have nBK1_ : Aside0 (w62_.heap[gb1_]? = some (.cells #[.int .i64 a1, .slice A1_1 l1_1.length c1_1, .slice A1_2 l1_2.length c1_2] 25 (0, 0))) := ⟨by rw [← hq_]; exact (bk BK1)⟩
 have nBK12_ : Aside0 (w62_.heap[gb12_]? = some (.cells #[.int .i64 r1_0, .int .i64 r1_1, .int .i64 r1_2, .int .i64 r1_3] 31 (0, 0))) := ⟨by rw [← hq_]; exact (bk BK12)⟩
 have nBK46_ : Aside0 (w62_.heap[gb46_]? = some (.cells #[.int .i64 a1, .slice (some ⟨g44_0_, 0, none⟩) l1_1.length (pad l1_1).length, .slice (some ⟨g44_1_, 0, none⟩) l1_2.length (pad l1_2).length] 36 (0, 0))) := ⟨by rw [← hq_]; exact (bk BK46)⟩
 have nBK52_ : Aside0 (w62_.heap[gb52_]? = some (.cells #[.int .i64 r1_0, .int .i64 r1_1, .int .i64 r1_2, .int .i64 r1_3] 31 (0, 0))) := ⟨by rw [← hq_]; exact (bk BK52)⟩
 have nHB_ : Aside0 (Below w.heap.size w w62_) := ⟨by rw [← hq_]; exact bz⟩
 have nZ_ : Aside0 (b58_0_ ≤ w62_.heap.size) := ⟨by rw [← hq_]; exact (by exact Z.out)⟩
 clear hq_ O42_0 O44_0 O44_1 O58_0 BK1 BK12 BK46 BK52 HB Z
 have O42_0 := nO42_0_
 have O44_0 := nO44_0_
 have O44_1 := nO44_1_
 have O58_0 := nO58_0_
 have BK1 := nBK1_
 have BK12 := nBK12_
 have BK46 := nBK46_
 have BK52 := nBK52_
 have HB := nHB_
 have Z := nZ_
 clear nO42_0_ nO44_0_ nO44_1_ nO58_0_ nBK1_ nBK12_ nBK46_ nBK52_ nHB_ nZ_
 refine take_ (i := 0) (N := some 56) (v := ?_) (a' := ?_) #[tT, fF, fF, fF, fF] rfl rfl kf (fun _ _ _ h => h) (Or.inl ⟨by rfl, ?_⟩) hHeld ?_ ?_
 rotate_left
 ·rintro w' ⟨s0, s1, s2, s3, s4, s5, s6, s7, s8, s9, s10, s11, s12, s13⟩
  go_simp
  with_reducible rfl
 rotate_left
 ·simp only [Act.put, List.setIfInBounds_toArray, List.set_cons_zero, List.set_cons_succ, i64_w, i32_w]
  rfl
 refine take_ (i := 1) (N := some 57) (v := ?_) (a' := ?_) #[tT, tT, fF, fF, fF] rfl rfl kf (fun _ _ _ h => h) (Or.inl ⟨by rfl, ?_⟩) hHeld ?_ ?_
 rotate_left
 ·rintro w' ⟨s0, s1, s2, s3, s4, s5, s6, s7, s8, s9, s10, s11, s12, s13⟩
  go_simp
  with_reducible rfl
 rotate_left
 ·simp only [Act.put, List.setIfInBounds_toArray, List.set_cons_zero, List.set_cons_succ, i64_w, i32_w]
  rfl
 refine one_ (i := 2) (N := some 58) #[tT, tT, tT, fF, fF] rfl rfl kf (by decide) (fun K hK => ?_)
 refine goes_ Tryz.func9 kf rfl #[.agg #[.int .i64 a1, .slice A1_1 l1_1.length c1_1, .slice A1_2 l1_2.length c1_2], .bool false] (by rfl) rfl rfl sm ?_
 (with_reducible refine (toBox_pad a1 _ _ l1_1 _ _ l1_2 _ ?side1 ?side2 ?side3 ?side4 HN1_1.out HN1_2.out).mono ?_)
 (case side1 => repeat (first | exact HR1_1.out | exact (Kd.C_below HR1_1.out bz) | (with_reducible refine Kd.C_alloc ?_ _) | (with_reducible refine Kd.C_drewN ?_ _) | (with_reducible refine Kd.C_drew ?_)))
 (case side2 => exact HC1_1.out)
 (case side3 => repeat (first | exact HR1_2.out | exact (Kd.C_below HR1_2.out bz) | (with_reducible refine Kd.C_alloc ?_ _) | (with_reducible refine Kd.C_drewN ?_ _) | (with_reducible refine Kd.C_drew ?_)))
 (case side4 => exact HC1_2.out)
 rintro e w63_ ⟨g63_0_, g63_1_, rfl, ho0, ho1, hb⟩
 refine ⟨_, rfl, ?_⟩
 have NGg63_0_ : Aside0 (g63_0_ ≠ g63_1_) := ⟨ho0.1 _ rfl⟩
 replace ho0 := Kd.R_mono ho0 (fun _ _ => True.intro)
 replace ho1 := Kd.R_mono ho1 (fun _ _ => True.intro)
 obtain ⟨a63_1_, b63_1_, z1_, z2_, zo0_, zo1_, z4_⟩ := made2 (by exact Z.out) bz hb ho0 ho1
 have nO42_0_ := Aside0.mk (Kd.R_below (kr O42_0) hb)
 have nO44_0_ := Aside0.mk (Kd.R_below (kr O44_0) hb)
 have nO44_1_ := Aside0.mk (Kd.R_below (kr O44_1) hb)
 have nO58_0_ := Aside0.mk (Kd.R_below (kr O58_0) hb)
 have nBK1_ := bb BK1 hb
 have nBK12_ := bb BK12 hb
 have nBK46_ := bb BK46 hb
 have nBK52_ := bb BK52 hb
 clear O42_0 O44_0 O44_1 O58_0 BK1 BK12 BK46 BK52 HB Z
 have O42_0 := nO42_0_
 have O44_0 := nO44_0_
 have O44_1 := nO44_1_
 have O58_0 := nO58_0_
 have BK1 := nBK1_
 have BK12 := nBK12_
 have BK46 := nBK46_
 have BK52 := nBK52_
 clear nO42_0_ nO44_0_ nO44_1_ nO58_0_ nBK1_ nBK12_ nBK46_ nBK52_
 have O63_0 := Aside0.mk zo0_
 have O63_1 := Aside0.mk zo1_
 have Q63_1 := Aside0.mk z1_
 have HB := Aside0.mk z4_
 have Z := Aside0.mk z2_
 clear z1_ z2_ z4_ hb ho0 zo0_ ho1 zo1_
 (try clear hcz61_BK1_0 hfz61_BK1_0 hcz61_BK1_1 hfz61_BK1_1 hcz61_BK1_2 hfz61_BK1_2 hcz61_BK12_0 hfz61_BK12_0 hcz61_BK12_1 hfz61_BK12_1 hcz61_BK12_2 hfz61_BK12_2 hcz61_BK12_3 hfz61_BK12_3 hcz61_BK46_0 hfz61_BK46_0 hcz61_BK46_1 hfz61_BK46_1 hcz61_BK46_2 hfz61_BK46_2 hcz61_BK52_0 hfz61_BK52_0 hcz61_BK52_1 hfz61_BK52_1 hcz61_BK52_2 hfz61_BK52_2 hcz61_BK52_3 hfz61_BK52_3)
 have hcz64_BK1_0 : w63_.cell? ⟨gb1_, 0, none⟩ = some (.int .i64 a1) := (blk_cell BK1.out 0).trans rfl
 have hfz64_BK1_0 := blk_frozen BK1.out 0
 have hcz64_BK1_1 : w63_.cell? ⟨gb1_, 1, none⟩ = some (.slice A1_1 l1_1.length c1_1) := (blk_cell BK1.out 1).trans rfl
 have hfz64_BK1_1 := blk_frozen BK1.out 1
 have hcz64_BK1_2 : w63_.cell? ⟨gb1_, 2, none⟩ = some (.slice A1_2 l1_2.length c1_2) := (blk_cell BK1.out 2).trans rfl
 have hfz64_BK1_2 := blk_frozen BK1.out 2
 have hcz64_BK12_0 : w63_.cell? ⟨gb12_, 0, none⟩ = some (.int .i64 r1_0) := (blk_cell BK12.out 0).trans rfl
 have hfz64_BK12_0 := blk_frozen BK12.out 0
 have hcz64_BK12_1 : w63_.cell? ⟨gb12_, 1, none⟩ = some (.int .i64 r1_1) := (blk_cell BK12.out 1).trans rfl
 have hfz64_BK12_1 := blk_frozen BK12.out 1
 have hcz64_BK12_2 : w63_.cell? ⟨gb12_, 2, none⟩ = some (.int .i64 r1_2) := (blk_cell BK12.out 2).trans rfl
 have hfz64_BK12_2 := blk_frozen BK12.out 2
 have hcz64_BK12_3 : w63_.cell? ⟨gb12_, 3, none⟩ = some (.int .i64 r1_3) := (blk_cell BK12.out 3).trans rfl
 have hfz64_BK12_3 := blk_frozen BK12.out 3
 have hcz64_BK46_0 : w63_.cell? ⟨gb46_, 0, none⟩ = some (.int .i64 a1) := (blk_cell BK46.out 0).trans rfl
 have hfz64_BK46_0 := blk_frozen BK46.out 0
 have hcz64_BK46_1 : w63_.cell? ⟨gb46_, 1, none⟩ = some (.slice (some ⟨g44_0_, 0, none⟩) l1_1.length (pad l1_1).length) := (blk_cell BK46.out 1).trans rfl
 have hfz64_BK46_1 := blk_frozen BK46.out 1
 have hcz64_BK46_2 : w63_.cell? ⟨gb46_, 2, none⟩ = some (.slice (some ⟨g44_1_, 0, none⟩) l1_2.length (pad l1_2).length) := (blk_cell BK46.out 2).trans rfl
 have hfz64_BK46_2 := blk_frozen BK46.out 2
 have hcz64_BK52_0 : w63_.cell? ⟨gb52_, 0, none⟩ = some (.int .i64 r1_0) := (blk_cell BK52.out 0).trans rfl
 have hfz64_BK52_0 := blk_frozen BK52.out 0
 have hcz64_BK52_1 : w63_.cell? ⟨gb52_, 1, none⟩ = some (.int .i64 r1_1) := (blk_cell BK52.out 1).trans rfl
 have hfz64_BK52_1 := blk_frozen BK52.out 1
 have hcz64_BK52_2 : w63_.cell? ⟨gb52_, 2, none⟩ = some (.int .i64 r1_2) := (blk_cell BK52.out 2).trans rfl
 have hfz64_BK52_2 := blk_frozen BK52.out 2
 have hcz64_BK52_3 : w63_.cell? ⟨gb52_, 3, none⟩ = some (.int .i64 r1_3) := (blk_cell BK52.out 3).trans rfl
 have hfz64_BK52_3 := blk_frozen BK52.out 3
 refine hK.out _ _ ⟨((blk_cell BK1.out 0).trans rfl), ((blk_cell BK1.out 1).trans rfl), ((blk_cell BK1.out 2).trans rfl), ((blk_cell BK12.out 0).trans rfl), ((blk_cell BK12.out 1).trans rfl), ((blk_cell BK12.out 2).trans rfl), ((blk_cell BK12.out 3).trans rfl), ((blk_cell BK46.out 0).trans rfl), ((blk_cell BK46.out 1).trans rfl), ((blk_cell BK46.out 2).trans rfl), ((blk_cell BK52.out 0).trans rfl), ((blk_cell BK52.out 1).trans rfl), ((blk_cell BK52.out 2).trans rfl), ((blk_cell BK52.out 3).trans rfl)⟩ (fun hHeld => ?_)
 clear hK K
 refine norm_ (a' := ?_) ?_ ?_
 rotate_left
 ·show Act.put _ (some 58) _ = _
  simp only [Act.put, List.setIfInBounds_toArray, List.set_cons_zero, List.set_cons_succ, i64_w, i32_w]
  rfl
 refine one_ (i := 3) (N := some 59) #[tT, tT, tT, tT, fF] rfl rfl kf (by decide) (fun K hK => ?_)
 refine goes_ Tryz.func13 kf rfl #[.agg #[.int .i64 a1, .slice (some ⟨g44_0_, 0, none⟩) l1_1.length (pad l1_1).length, .slice (some ⟨g44_1_, 0, none⟩) l1_2.length (pad l1_2).length], .agg #[.int .i64 a1, .slice (some ⟨g63_0_, 0, none⟩) l1_1.length (pad l1_1).length, .slice (some ⟨g63_1_, 0, none⟩) l1_2.length (pad l1_2).length]] (by rfl) rfl rfl sm ?_
 (with_reducible refine (intactBox_pad a1 _ _ _ _ l1_1 l1_2 _ HN1_1.out HN1_2.out ?side1 ?side2 ?side3 ?side4).mono ?_)
 (case side1 => exact ⟨_, _, (kr O44_0)⟩)
 (case side2 => exact ⟨_, _, (kr O63_0)⟩)
 (case side3 => exact ⟨_, _, (kr O44_1)⟩)
 (case side4 => exact ⟨_, _, (kr O63_1)⟩)
 rintro e w65_ ⟨rfl, hb⟩
 refine ⟨_, rfl, ?_⟩
 obtain ⟨z2_, z4_⟩ := still (by exact Z.out) bz hb
 have nO42_0_ := Aside0.mk (Kd.R_below (kr O42_0) hb)
 have nO44_0_ := Aside0.mk (Kd.R_below (kr O44_0) hb)
 have nO44_1_ := Aside0.mk (Kd.R_below (kr O44_1) hb)
 have nO58_0_ := Aside0.mk (Kd.R_below (kr O58_0) hb)
 have nO63_0_ := Aside0.mk (Kd.R_below (kr O63_0) hb)
 have nO63_1_ := Aside0.mk (Kd.R_below (kr O63_1) hb)
 have nBK1_ := bb BK1 hb
 have nBK12_ := bb BK12 hb
 have nBK46_ := bb BK46 hb
 have nBK52_ := bb BK52 hb
 clear O42_0 O44_0 O44_1 O58_0 O63_0 O63_1 BK1 BK12 BK46 BK52 HB Z
 have O42_0 := nO42_0_
 have O44_0 := nO44_0_
 have O44_1 := nO44_1_
 have O58_0 := nO58_0_
 have O63_0 := nO63_0_
 have O63_1 := nO63_1_
 have BK1 := nBK1_
 have BK12 := nBK12_
 have BK46 := nBK46_
 have BK52 := nBK52_
 clear nO42_0_ nO44_0_ nO44_1_ nO58_0_ nO63_0_ nO63_1_ nBK1_ nBK12_ nBK46_ nBK52_
 have HB := Aside0.mk z4_
 have Z := Aside0.mk z2_
 clear z2_ z4_ hb
 (try clear hcz64_BK1_0 hfz64_BK1_0 hcz64_BK1_1 hfz64_BK1_1 hcz64_BK1_2 hfz64_BK1_2 hcz64_BK12_0 hfz64_BK12_0 hcz64_BK12_1 hfz64_BK12_1 hcz64_BK12_2 hfz64_BK12_2 hcz64_BK12_3 hfz64_BK12_3 hcz64_BK46_0 hfz64_BK46_0 hcz64_BK46_1 hfz64_BK46_1 hcz64_BK46_2 hfz64_BK46_2 hcz64_BK52_0 hfz64_BK52_0 hcz64_BK52_1 hfz64_BK52_1 hcz64_BK52_2 hfz64_BK52_2 hcz64_BK52_3 hfz64_BK52_3)
 have hcz66_BK1_0 : w65_.cell? ⟨gb1_, 0, none⟩ = some (.int .i64 a1) := (blk_cell BK1.out 0).trans rfl
 have hfz66_BK1_0 := blk_frozen BK1.out 0
 have hcz66_BK1_1 : w65_.cell? ⟨gb1_, 1, none⟩ = some (.slice A1_1 l1_1.length c1_1) := (blk_cell BK1.out 1).trans rfl
 have hfz66_BK1_1 := blk_frozen BK1.out 1
 have hcz66_BK1_2 : w65_.cell? ⟨gb1_, 2, none⟩ = some (.slice A1_2 l1_2.length c1_2) := (blk_cell BK1.out 2).trans rfl
 have hfz66_BK1_2 := blk_frozen BK1.out 2
 have hcz66_BK12_0 : w65_.cell? ⟨gb12_, 0, none⟩ = some (.int .i64 r1_0) := (blk_cell BK12.out 0).trans rfl
 have hfz66_BK12_0 := blk_frozen BK12.out 0
 have hcz66_BK12_1 : w65_.cell? ⟨gb12_, 1, none⟩ = some (.int .i64 r1_1) := (blk_cell BK12.out 1).trans rfl
 have hfz66_BK12_1 := blk_frozen BK12.out 1
 have hcz66_BK12_2 : w65_.cell? ⟨gb12_, 2, none⟩ = some (.int .i64 r1_2) := (blk_cell BK12.out 2).trans rfl
 have hfz66_BK12_2 := blk_frozen BK12.out 2
 have hcz66_BK12_3 : w65_.cell? ⟨gb12_, 3, none⟩ = some (.int .i64 r1_3) := (blk_cell BK12.out 3).trans rfl
 have hfz66_BK12_3 := blk_frozen BK12.out 3
 have hcz66_BK46_0 : w65_.cell? ⟨gb46_, 0, none⟩ = some (.int .i64 a1) := (blk_cell BK46.out 0).trans rfl
 have hfz66_BK46_0 := blk_frozen BK46.out 0
 have hcz66_BK46_1 : w65_.cell? ⟨gb46_, 1, none⟩ = some (.slice (some ⟨g44_0_, 0, none⟩) l1_1.length (pad l1_1).length) := (blk_cell BK46.out 1).trans rfl
 have hfz66_BK46_1 := blk_frozen BK46.out 1
 have hcz66_BK46_2 : w65_.cell? ⟨gb46_, 2, none⟩ = some (.slice (some ⟨g44_1_, 0, none⟩) l1_2.length (pad l1_2).length) := (blk_cell BK46.out 2).trans rfl
 have hfz66_BK46_2 := blk_frozen BK46.out 2
 have hcz66_BK52_0 : w65_.cell? ⟨gb52_, 0, none⟩ = some (.int .i64 r1_0) := (blk_cell BK52.out 0).trans rfl
 have hfz66_BK52_0 := blk_frozen BK52.out 0
 have hcz66_BK52_1 : w65_.cell? ⟨gb52_, 1, none⟩ = some (.int .i64 r1_1) := (blk_cell BK52.out 1).trans rfl
 have hfz66_BK52_1 := blk_frozen BK52.out 1
 have hcz66_BK52_2 : w65_.cell? ⟨gb52_, 2, none⟩ = some (.int .i64 r1_2) := (blk_cell BK52.out 2).trans rfl
 have hfz66_BK52_2 := blk_frozen BK52.out 2
 have hcz66_BK52_3 : w65_.cell? ⟨gb52_, 3, none⟩ = some (.int .i64 r1_3) := (blk_cell BK52.out 3).trans rfl
 have hfz66_BK52_3 := blk_frozen BK52.out 3
 refine hK.out _ _ ⟨((blk_cell BK1.out 0).trans rfl), ((blk_cell BK1.out 1).trans rfl), ((blk_cell BK1.out 2).trans rfl), ((blk_cell BK12.out 0).trans rfl), ((blk_cell BK12.out 1).trans rfl), ((blk_cell BK12.out 2).trans rfl), ((blk_cell BK12.out 3).trans rfl), ((blk_cell BK46.out 0).trans rfl), ((blk_cell BK46.out 1).trans rfl), ((blk_cell BK46.out 2).trans rfl), ((blk_cell BK52.out 0).trans rfl), ((blk_cell BK52.out 1).trans rfl), ((blk_cell BK52.out 2).trans rfl), ((blk_cell BK52.out 3).trans rfl)⟩ (fun hHeld => ?_)
 clear hK K
 refine norm_ (a' := ?_) ?_ ?_
 rotate_left
 ·show Act.put _ (some 59) _ = _
  simp only [Act.put, List.setIfInBounds_toArray, List.set_cons_zero, List.set_cons_succ, i64_w, i32_w]
  rfl
 refine pure_ (i := 4) (N := some 60) (v := ?_) (a' := ?_) #[tT, tT, tT, tT, tT] rfl rfl kf (fun _ _ _ h => h) (Or.inl ⟨by rfl, ?_⟩) ?_ ?_
 rotate_left
 ·intro w'
  go_simp
  with_reducible rfl
 rotate_left
 ·simp only [Act.put, List.setIfInBounds_toArray, List.set_cons_zero, List.set_cons_succ, i64_w, i32_w]
  rfl
 refine done_ kf ?_
 try go_wp2
 try go_wp2
 refine start_ (n := 11) (S := fun w' => w'.cell? ⟨gb1_, 0, none⟩ = some (.int .i64 a1) ∧ w'.cell? ⟨gb1_, 1, none⟩ = some (.slice A1_1 l1_1.length c1_1) ∧ w'.cell? ⟨gb1_, 2, none⟩ = some (.slice A1_2 l1_2.length c1_2) ∧ w'.cell? ⟨gb12_, 0, none⟩ = some (.int .i64 r1_0) ∧ w'.cell? ⟨gb12_, 1, none⟩ = some (.int .i64 r1_1) ∧ w'.cell? ⟨gb12_, 2, none⟩ = some (.int .i64 r1_2) ∧ w'.cell? ⟨gb12_, 3, none⟩ = some (.int .i64 r1_3) ∧ w'.cell? ⟨gb46_, 0, none⟩ = some (.int .i64 a1) ∧ w'.cell? ⟨gb46_, 1, none⟩ = some (.slice (some ⟨g44_0_, 0, none⟩) l1_1.length (pad l1_1).length) ∧ w'.cell? ⟨gb46_, 2, none⟩ = some (.slice (some ⟨g44_1_, 0, none⟩) l1_2.length (pad l1_2).length) ∧ w'.cell? ⟨gb52_, 0, none⟩ = some (.int .i64 r1_0) ∧ w'.cell? ⟨gb52_, 1, none⟩ = some (.int .i64 r1_1) ∧ w'.cell? ⟨gb52_, 2, none⟩ = some (.int .i64 r1_2) ∧ w'.cell? ⟨gb52_, 3, none⟩ = some (.int .i64 r1_3)) (ds := []) #[fF, fF, fF, fF, fF, fF, fF, fF, fF, fF, fF] kf rfl rfl ⟨((blk_cell (g := gb1_) (cs := #[.int .i64 a1, .slice A1_1 l1_1.length c1_1, .slice A1_2 l1_2.length c1_2]) (t := 25) (bk BK1) 0).trans rfl), ((blk_cell (g := gb1_) (cs := #[.int .i64 a1, .slice A1_1 l1_1.length c1_1, .slice A1_2 l1_2.length c1_2]) (t := 25) (bk BK1) 1).trans rfl), ((blk_cell (g := gb1_) (cs := #[.int .i64 a1, .slice A1_1 l1_1.length c1_1, .slice A1_2 l1_2.length c1_2]) (t := 25) (bk BK1) 2).trans rfl), ((blk_cell (g := gb12_) (cs := #[.int .i64 r1_0, .int .i64 r1_1, .int .i64 r1_2, .int .i64 r1_3]) (t := 31) (bk BK12) 0).trans rfl), ((blk_cell (g := gb12_) (cs := #[.int .i64 r1_0, .int .i64 r1_1, .int .i64 r1_2, .int .i64 r1_3]) (t := 31) (bk BK12) 1).trans rfl), ((blk_cell (g := gb12_) (cs := #[.int .i64 r1_0, .int .i64 r1_1, .int .i64 r1_2, .int .i64 r1_3]) (t := 31) (bk BK12) 2).trans rfl), ((blk_cell (g := gb12_) (cs := #[.int .i64 r1_0, .int .i64 r1_1, .int .i64 r1_2, .int .i64 r1_3]) (t := 31) (bk BK12) 3).trans rfl), ((blk_cell (g := gb46_) (cs := #[.int .i64 a1, .slice (some ⟨g44_0_, 0, none⟩) l1_1.length (pad l1_1).length, .slice (some ⟨g44_1_, 0, none⟩) l1_2.length (pad l1_2).length]) (t := 36) (bk BK46) 0).trans rfl), ((blk_cell (g := gb46_) (cs := #[.int .i64 a1, .slice (some ⟨g44_0_, 0, none⟩) l1_1.length (pad l1_1).length, .slice (some ⟨g44_1_, 0, none⟩) l1_2.length (pad l1_2).length]) (t := 36) (bk BK46) 1).trans rfl), ((blk_cell (g := gb46_) (cs := #[.int .i64 a1, .slice (some ⟨g44_0_, 0, none⟩) l1_1.length (pad l1_1).length, .slice (some ⟨g44_1_, 0, none⟩) l1_2.length (pad l1_2).length]) (t := 36) (bk BK46) 2).trans rfl), ((blk_cell (g := gb52_) (cs := #[.int .i64 r1_0, .int .i64 r1_1, .int .i64 r1_2, .int .i64 r1_3]) (t := 31) (bk BK52) 0).trans rfl), ((blk_cell (g := gb52_) (cs := #[.int .i64 r1_0, .int .i64 r1_1, .int .i64 r1_2, .int .i64 r1_3]) (t := 31) (bk BK52) 1).trans rfl), ((blk_cell (g := gb52_) (cs := #[.int .i64 r1_0, .int .i64 r1_1, .int .i64 r1_2, .int .i64 r1_3]) (t := 31) (bk BK52) 2).trans rfl), ((blk_cell (g := gb52_) (cs := #[.int .i64 r1_0, .int .i64 r1_1, .int .i64 r1_2, .int .i64 r1_3]) (t := 31) (bk BK52) 3).trans rfl)⟩ (fun hHeld => ?_); refine with_tabW law.tab18 law.bits18 (fun HT_ HW_ => ?_)
 generalize hq_ : World.drew _ = w67_ at hHeld ⊢
 have nO42_0_ : Aside0 (Kd.R k55 55 w67_ w.heap.size (fun k => a42_0_ ≤ k ∧ k < b42_0_) (.slice A42_ P0.length c42_) P0) := ⟨by rw [← hq_]; exact (kr O42_0)⟩
 have nO44_0_ : Aside0 (Kd.R (Kd.int .i64) 3 w67_ w.heap.size (fun k => a44_1_ ≤ k ∧ k < b44_1_) (.slice (some ⟨g44_0_, 0, none⟩) (pad l1_1).length (pad l1_1).length) (pad l1_1)) := ⟨by rw [← hq_]; exact (kr O44_0)⟩
 have nO44_1_ : Aside0 (Kd.R (Kd.int .i64) 3 w67_ w.heap.size (fun k => a44_1_ ≤ k ∧ k < b44_1_) (.slice (some ⟨g44_1_, 0, none⟩) (pad l1_2).length (pad l1_2).length) (pad l1_2)) := ⟨by rw [← hq_]; exact (kr O44_1)⟩
 have nO58_0_ : Aside0 (Kd.R k55 55 w67_ w.heap.size (fun k => a58_0_ ≤ k ∧ k < b58_0_) (.slice A58_ P0.length c58_) P0) := ⟨by rw [← hq_]; exact (kr O58_0)⟩
 have nO63_0_ : Aside0 (Kd.R (Kd.int .i64) 3 w67_ w.heap.size (fun k => a63_1_ ≤ k ∧ k < b63_1_) (.slice (some ⟨g63_0_, 0, none⟩) (pad l1_1).length (pad l1_1).length) (pad l1_1)) := ⟨by rw [← hq_]; exact (kr O63_0)⟩
 have nO63_1_ : Aside0 (Kd.R (Kd.int .i64) 3 w67_ w.heap.size (fun k => a63_1_ ≤ k ∧ k < b63_1_) (.slice (some ⟨g63_1_, 0, none⟩) (pad l1_2).length (pad l1_2).length) (pad l1_2)) := ⟨by rw [← hq_]; exact (kr O63_1)⟩
 have nBK1_ : Aside0 (w67_.heap[gb1_]? = some (.cells #[.int .i64 a1, .slice A1_1 l1_1.length c1_1, .slice A1_2 l1_2.length c1_2] 25 (0, 0))) := ⟨by rw [← hq_]; exact (bk BK1)⟩
 have nBK12_ : Aside0 (w67_.heap[gb12_]? = some (.cells #[.int .i64 r1_0, .int .i64 r1_1, .int .i64 r1_2, .int .i64 r1_3] 31 (0, 0))) := ⟨by rw [← hq_]; exact (bk BK12)⟩
 have nBK46_ : Aside0 (w67_.heap[gb46_]? = some (.cells #[.int .i64 a1, .slice (some ⟨g44_0_, 0, none⟩) l1_1.length (pad l1_1).length, .slice (some ⟨g44_1_, 0, none⟩) l1_2.length (pad l1_2).length] 36 (0, 0))) := ⟨by rw [← hq_]; exact (bk BK46)⟩
 have nBK52_ : Aside0 (w67_.heap[gb52_]? = some (.cells #[.int .i64 r1_0, .int .i64 r1_1, .int .i64 r1_2, .int .i64 r1_3] 31 (0, 0))) := ⟨by rw [← hq_]; exact (bk BK52)⟩
 have nHB_ : Aside0 (Below w.heap.size w w67_) := ⟨by rw [← hq_]; exact bz⟩
 have nZ_ : Aside0 (b63_1_ ≤ w67_.heap.size) := ⟨by rw [← hq_]; exact (by exact Z.out)⟩
 clear hq_ O42_0 O44_0 O44_1 O58_0 O63_0 O63_1 BK1 BK12 BK46 BK52 HB Z
 have O42_0 := nO42_0_
 have O44_0 := nO44_0_
 have O44_1 := nO44_1_
 have O58_0 := nO58_0_
 have O63_0 := nO63_0_
 have O63_1 := nO63_1_
 have BK1 := nBK1_
 have BK12 := nBK12_
 have BK46 := nBK46_
 have BK52 := nBK52_
 have HB := nHB_
 have Z := nZ_
 clear nO42_0_ nO44_0_ nO44_1_ nO58_0_ nO63_0_ nO63_1_ nBK1_ nBK12_ nBK46_ nBK52_ nHB_ nZ_
 refine pq (i := 0) (N := some 62) #[tT, fF, fF, fF, fF, fF, fF, fF, fF, fF, fF] rfl rfl HT_.out ?_
 refine take_ (i := 2) (N := some 64) (v := ?_) (a' := ?_) #[tT, fF, tT, fF, fF, fF, fF, fF, fF, fF, fF] rfl rfl (take_ofW HT_.out HW_.out kf) (fun _ _ _ h => h) (Or.inl ⟨by rfl, ?_⟩) hHeld ?_ ?_
 rotate_left
 ·rintro w' ⟨s0, s1, s2, s3, s4, s5, s6, s7, s8, s9, s10, s11, s12, s13⟩
  go_simp
  with_reducible rfl
 rotate_left
 ·simp only [Act.put, List.setIfInBounds_toArray, List.set_cons_zero, List.set_cons_succ, i64_w, i32_w]
  rfl
 refine join_ (σ := Value × Value × Nat) 2 #[tT, tT, tT, tT, tT, tT, tT, tT, tT, fF, fF] (fun s_ => [(63, s_.1), (65, s_.2.1), (66, .tuple #[.agg #[.int .i64 r1_0, .int .i64 r1_1, .int .i64 r1_2, .int .i64 r1_3], .bool r2]), (12, .pointer (some ⟨s_.2.2, 0, none⟩)), (61, .tuple #[.agg #[.int .i64 r1_0, .int .i64 r1_1, .int .i64 r1_2, .int .i64 r1_3], .bool r2]), (67, .agg #[.int .i64 r1_0, .int .i64 r1_1, .int .i64 r1_2, .int .i64 r1_3]), (68, .bool r2)]) (fun s_ w' => w'.cell? ⟨gb1_, 0, none⟩ = some (.int .i64 a1) ∧ w'.cell? ⟨gb1_, 1, none⟩ = some (.slice A1_1 l1_1.length c1_1) ∧ w'.cell? ⟨gb1_, 2, none⟩ = some (.slice A1_2 l1_2.length c1_2) ∧ w'.cell? ⟨gb12_, 0, none⟩ = some (.int .i64 r1_0) ∧ w'.cell? ⟨gb12_, 1, none⟩ = some (.int .i64 r1_1) ∧ w'.cell? ⟨gb12_, 2, none⟩ = some (.int .i64 r1_2) ∧ w'.cell? ⟨gb12_, 3, none⟩ = some (.int .i64 r1_3) ∧ w'.cell? ⟨gb46_, 0, none⟩ = some (.int .i64 a1) ∧ w'.cell? ⟨gb46_, 1, none⟩ = some (.slice (some ⟨g44_0_, 0, none⟩) l1_1.length (pad l1_1).length) ∧ w'.cell? ⟨gb46_, 2, none⟩ = some (.slice (some ⟨g44_1_, 0, none⟩) l1_2.length (pad l1_2).length) ∧ w'.cell? ⟨gb52_, 0, none⟩ = some (.int .i64 r1_0) ∧ w'.cell? ⟨gb52_, 1, none⟩ = some (.int .i64 r1_1) ∧ w'.cell? ⟨gb52_, 2, none⟩ = some (.int .i64 r1_2) ∧ w'.cell? ⟨gb52_, 3, none⟩ = some (.int .i64 r1_3) ∧ Kd.R k55 55 w' w.heap.size (fun k => a42_0_ ≤ k ∧ k < b42_0_) (.slice A42_ P0.length c42_) P0 ∧ Kd.R (Kd.int .i64) 3 w' w.heap.size (fun k => a44_1_ ≤ k ∧ k < b44_1_) (.slice (some ⟨g44_0_, 0, none⟩) (pad l1_1).length (pad l1_1).length) (pad l1_1) ∧ Kd.R (Kd.int .i64) 3 w' w.heap.size (fun k => a44_1_ ≤ k ∧ k < b44_1_) (.slice (some ⟨g44_1_, 0, none⟩) (pad l1_2).length (pad l1_2).length) (pad l1_2) ∧ Kd.R k55 55 w' w.heap.size (fun k => a58_0_ ≤ k ∧ k < b58_0_) (.slice A58_ P0.length c58_) P0 ∧ Kd.R (Kd.int .i64) 3 w' w.heap.size (fun k => a63_1_ ≤ k ∧ k < b63_1_) (.slice (some ⟨g63_0_, 0, none⟩) (pad l1_1).length (pad l1_1).length) (pad l1_1) ∧ Kd.R (Kd.int .i64) 3 w' w.heap.size (fun k => a63_1_ ≤ k ∧ k < b63_1_) (.slice (some ⟨g63_1_, 0, none⟩) (pad l1_2).length (pad l1_2).length) (pad l1_2) ∧ w'.heap[gb1_]? = some (.cells #[.int .i64 a1, .slice A1_1 l1_1.length c1_1, .slice A1_2 l1_2.length c1_2] 25 (0, 0)) ∧ w'.heap[gb12_]? = some (.cells #[.int .i64 r1_0, .int .i64 r1_1, .int .i64 r1_2, .int .i64 r1_3] 31 (0, 0)) ∧ w'.heap[gb46_]? = some (.cells #[.int .i64 a1, .slice (some ⟨g44_0_, 0, none⟩) l1_1.length (pad l1_1).length, .slice (some ⟨g44_1_, 0, none⟩) l1_2.length (pad l1_2).length] 36 (0, 0)) ∧ w'.heap[gb52_]? = some (.cells #[.int .i64 r1_0, .int .i64 r1_1, .int .i64 r1_2, .int .i64 r1_3] 31 (0, 0)) ∧ w'.heap[s_.2.2]? = some (.cells #[.int .i64 0, .int .i64 0, .int .i64 0, .int .i64 0] 31 (0, 0)) ∧ b63_1_ ≤ s_.2.2 ∧ w.heap.size ≤ s_.2.2 ∧ gb1_ ≠ s_.2.2 ∧ gb12_ ≠ s_.2.2 ∧ gb46_ ≠ s_.2.2 ∧ gb52_ ≠ s_.2.2 ∧ Below w.heap.size w w' ∧ s_.2.2 + 1 ≤ w'.heap.size) ?_ ?_
 rotate_left
 ·intro hCont
  refine two_ (i := 1) (j := 8) (Ni := some 63) (Nj := some 12) #[tT, tT, tT, fF, fF, fF, fF, fF, fF, fF, fF] #[tT, fF, tT, fF, fF, fF, fF, fF, tT, fF, fF] rfl rfl rfl rfl (two_of HT_.out kf) (by decide) (by decide) (fun K hK => ?_) (fun K hK => ?_)
  ·skip
   refine goes_ Tryz.func8 kf rfl #[.slice A0 l0.length c0, .bool true] (by rfl) rfl rfl sm ?_
   (with_reducible refine (laws_toTermS.calls kb0 _ _ l0 true q0 _ ?side1 ?side2 HBA0.out).mono ?_)
   (case side1 => repeat (first | exact HR0.out | exact (Kd.C_below HR0.out bz) | (with_reducible refine Kd.C_alloc ?_ _) | (with_reducible refine Kd.C_drewN ?_ _) | (with_reducible refine Kd.C_drew ?_)))
   (case side2 => exact HC0.out)
   rintro e w78_ ⟨v78_, rfl, ho0, hb⟩
   refine ⟨_, rfl, ?_⟩
   obtain ⟨a78_0_, b78_0_, z1_, z2_, zo0_, z4_⟩ := made (by exact Z.out) bz hb ho0
   have nO42_0_ := Aside0.mk (Kd.R_below (kr O42_0) hb)
   have nO44_0_ := Aside0.mk (Kd.R_below (kr O44_0) hb)
   have nO44_1_ := Aside0.mk (Kd.R_below (kr O44_1) hb)
   have nO58_0_ := Aside0.mk (Kd.R_below (kr O58_0) hb)
   have nO63_0_ := Aside0.mk (Kd.R_below (kr O63_0) hb)
   have nO63_1_ := Aside0.mk (Kd.R_below (kr O63_1) hb)
   have nBK1_ := bb BK1 hb
   have nBK12_ := bb BK12 hb
   have nBK46_ := bb BK46 hb
   have nBK52_ := bb BK52 hb
   clear O42_0 O44_0 O44_1 O58_0 O63_0 O63_1 BK1 BK12 BK46 BK52 HB Z
   have O42_0 := nO42_0_
   have O44_0 := nO44_0_
   have O44_1 := nO44_1_
   have O58_0 := nO58_0_
   have O63_0 := nO63_0_
   have O63_1 := nO63_1_
   have BK1 := nBK1_
   have BK12 := nBK12_
   have BK46 := nBK46_
   have BK52 := nBK52_
   clear nO42_0_ nO44_0_ nO44_1_ nO58_0_ nO63_0_ nO63_1_ nBK1_ nBK12_ nBK46_ nBK52_
   have O78_0 := Aside0.mk zo0_
   have Q78_0 := Aside0.mk z1_
   have HB := Aside0.mk z4_
   have Z := Aside0.mk z2_
   clear z1_ z2_ z4_ hb ho0 zo0_
   obtain ⟨A78_, c78_, e78_⟩ := Kd.R_slice O78_0.out; subst e78_
   (try clear hcz66_BK1_0 hfz66_BK1_0 hcz66_BK1_1 hfz66_BK1_1 hcz66_BK1_2 hfz66_BK1_2 hcz66_BK12_0 hfz66_BK12_0 hcz66_BK12_1 hfz66_BK12_1 hcz66_BK12_2 hfz66_BK12_2 hcz66_BK12_3 hfz66_BK12_3 hcz66_BK46_0 hfz66_BK46_0 hcz66_BK46_1 hfz66_BK46_1 hcz66_BK46_2 hfz66_BK46_2 hcz66_BK52_0 hfz66_BK52_0 hcz66_BK52_1 hfz66_BK52_1 hcz66_BK52_2 hfz66_BK52_2 hcz66_BK52_3 hfz66_BK52_3)
   have hcz79_BK1_0 : w78_.cell? ⟨gb1_, 0, none⟩ = some (.int .i64 a1) := (blk_cell BK1.out 0).trans rfl
   have hfz79_BK1_0 := blk_frozen BK1.out 0
   have hcz79_BK1_1 : w78_.cell? ⟨gb1_, 1, none⟩ = some (.slice A1_1 l1_1.length c1_1) := (blk_cell BK1.out 1).trans rfl
   have hfz79_BK1_1 := blk_frozen BK1.out 1
   have hcz79_BK1_2 : w78_.cell? ⟨gb1_, 2, none⟩ = some (.slice A1_2 l1_2.length c1_2) := (blk_cell BK1.out 2).trans rfl
   have hfz79_BK1_2 := blk_frozen BK1.out 2
   have hcz79_BK12_0 : w78_.cell? ⟨gb12_, 0, none⟩ = some (.int .i64 r1_0) := (blk_cell BK12.out 0).trans rfl
   have hfz79_BK12_0 := blk_frozen BK12.out 0
   have hcz79_BK12_1 : w78_.cell? ⟨gb12_, 1, none⟩ = some (.int .i64 r1_1) := (blk_cell BK12.out 1).trans rfl
   have hfz79_BK12_1 := blk_frozen BK12.out 1
   have hcz79_BK12_2 : w78_.cell? ⟨gb12_, 2, none⟩ = some (.int .i64 r1_2) := (blk_cell BK12.out 2).trans rfl
   have hfz79_BK12_2 := blk_frozen BK12.out 2
   have hcz79_BK12_3 : w78_.cell? ⟨gb12_, 3, none⟩ = some (.int .i64 r1_3) := (blk_cell BK12.out 3).trans rfl
   have hfz79_BK12_3 := blk_frozen BK12.out 3
   have hcz79_BK46_0 : w78_.cell? ⟨gb46_, 0, none⟩ = some (.int .i64 a1) := (blk_cell BK46.out 0).trans rfl
   have hfz79_BK46_0 := blk_frozen BK46.out 0
   have hcz79_BK46_1 : w78_.cell? ⟨gb46_, 1, none⟩ = some (.slice (some ⟨g44_0_, 0, none⟩) l1_1.length (pad l1_1).length) := (blk_cell BK46.out 1).trans rfl
   have hfz79_BK46_1 := blk_frozen BK46.out 1
   have hcz79_BK46_2 : w78_.cell? ⟨gb46_, 2, none⟩ = some (.slice (some ⟨g44_1_, 0, none⟩) l1_2.length (pad l1_2).length) := (blk_cell BK46.out 2).trans rfl
   have hfz79_BK46_2 := blk_frozen BK46.out 2
   have hcz79_BK52_0 : w78_.cell? ⟨gb52_, 0, none⟩ = some (.int .i64 r1_0) := (blk_cell BK52.out 0).trans rfl
   have hfz79_BK52_0 := blk_frozen BK52.out 0
   have hcz79_BK52_1 : w78_.cell? ⟨gb52_, 1, none⟩ = some (.int .i64 r1_1) := (blk_cell BK52.out 1).trans rfl
   have hfz79_BK52_1 := blk_frozen BK52.out 1
   have hcz79_BK52_2 : w78_.cell? ⟨gb52_, 2, none⟩ = some (.int .i64 r1_2) := (blk_cell BK52.out 2).trans rfl
   have hfz79_BK52_2 := blk_frozen BK52.out 2
   have hcz79_BK52_3 : w78_.cell? ⟨gb52_, 3, none⟩ = some (.int .i64 r1_3) := (blk_cell BK52.out 3).trans rfl
   have hfz79_BK52_3 := blk_frozen BK52.out 3
   refine hK.out _ _ ⟨((blk_cell BK1.out 0).trans rfl), ((blk_cell BK1.out 1).trans rfl), ((blk_cell BK1.out 2).trans rfl), ((blk_cell BK12.out 0).trans rfl), ((blk_cell BK12.out 1).trans rfl), ((blk_cell BK12.out 2).trans rfl), ((blk_cell BK12.out 3).trans rfl), ((blk_cell BK46.out 0).trans rfl), ((blk_cell BK46.out 1).trans rfl), ((blk_cell BK46.out 2).trans rfl), ((blk_cell BK52.out 0).trans rfl), ((blk_cell BK52.out 1).trans rfl), ((blk_cell BK52.out 2).trans rfl), ((blk_cell BK52.out 3).trans rfl)⟩ (fun hHeld => ?_)
   clear hK K
   refine norm_ (a' := ?_) ?_ ?_
   rotate_left
   ·show Act.put _ (some 63) _ = _
    simp only [Act.put, List.setIfInBounds_toArray, List.set_cons_zero, List.set_cons_succ, i64_w, i32_w]
    rfl
   refine two_ (i := 3) (j := 8) (Ni := some 65) (Nj := some 12) #[tT, tT, tT, tT, fF, fF, fF, fF, fF, fF, fF] #[tT, tT, tT, fF, fF, fF, fF, fF, tT, fF, fF] rfl rfl rfl rfl (two_of HT_.out kf) (by decide) (by decide) (fun K hK => ?_) (fun K hK => ?_)
   ·skip
    refine goes_ Tryz.func9 kf rfl #[.agg #[.int .i64 a1, .slice A1_1 l1_1.length c1_1, .slice A1_2 l1_2.length c1_2], .bool true] (by rfl) rfl rfl sm ?_
    (with_reducible refine (laws_toBox.calls kb1 a1 _ _ l1_1 _ _ l1_2 true a1 l1_1 l1_2 _ ?side1 ?side2 ?side3 ?side4 HBA1.out).mono ?_)
    (case side1 => repeat (first | exact HR1_1.out | exact (Kd.C_below HR1_1.out bz) | (with_reducible refine Kd.C_alloc ?_ _) | (with_reducible refine Kd.C_drewN ?_ _) | (with_reducible refine Kd.C_drew ?_)))
    (case side2 => exact HC1_1.out)
    (case side3 => repeat (first | exact HR1_2.out | exact (Kd.C_below HR1_2.out bz) | (with_reducible refine Kd.C_alloc ?_ _) | (with_reducible refine Kd.C_drewN ?_ _) | (with_reducible refine Kd.C_drew ?_)))
    (case side4 => exact HC1_2.out)
    rintro e w80_ ⟨v80_0_, v80_1_, rfl, ho0, ho1, hb⟩
    refine ⟨_, rfl, ?_⟩
    replace ho0 := Kd.R_mono ho0 (fun _ _ => True.intro)
    replace ho1 := Kd.R_mono ho1 (fun _ _ => True.intro)
    obtain ⟨a80_1_, b80_1_, z1_, z2_, zo0_, zo1_, z4_⟩ := made2 (by exact Z.out) bz hb ho0 ho1
    have nO42_0_ := Aside0.mk (Kd.R_below (kr O42_0) hb)
    have nO44_0_ := Aside0.mk (Kd.R_below (kr O44_0) hb)
    have nO44_1_ := Aside0.mk (Kd.R_below (kr O44_1) hb)
    have nO58_0_ := Aside0.mk (Kd.R_below (kr O58_0) hb)
    have nO63_0_ := Aside0.mk (Kd.R_below (kr O63_0) hb)
    have nO63_1_ := Aside0.mk (Kd.R_below (kr O63_1) hb)
    have nO78_0_ := Aside0.mk (Kd.R_below (kr O78_0) hb)
    have nBK1_ := bb BK1 hb
    have nBK12_ := bb BK12 hb
    have nBK46_ := bb BK46 hb
    have nBK52_ := bb BK52 hb
    clear O42_0 O44_0 O44_1 O58_0 O63_0 O63_1 O78_0 BK1 BK12 BK46 BK52 HB Z
    have O42_0 := nO42_0_
    have O44_0 := nO44_0_
    have O44_1 := nO44_1_
    have O58_0 := nO58_0_
    have O63_0 := nO63_0_
    have O63_1 := nO63_1_
    have O78_0 := nO78_0_
    have BK1 := nBK1_
    have BK12 := nBK12_
    have BK46 := nBK46_
    have BK52 := nBK52_
    clear nO42_0_ nO44_0_ nO44_1_ nO58_0_ nO63_0_ nO63_1_ nO78_0_ nBK1_ nBK12_ nBK46_ nBK52_
    have O80_0 := Aside0.mk zo0_
    have O80_1 := Aside0.mk zo1_
    have Q80_1 := Aside0.mk z1_
    have HB := Aside0.mk z4_
    have Z := Aside0.mk z2_
    clear z1_ z2_ z4_ hb ho0 zo0_ ho1 zo1_
    obtain ⟨A80_0_, c80_0_, e80_0_⟩ := Kd.R_slice O80_0.out; subst e80_0_
    obtain ⟨A80_1_, c80_1_, e80_1_⟩ := Kd.R_slice O80_1.out; subst e80_1_
    (try clear hcz79_BK1_0 hfz79_BK1_0 hcz79_BK1_1 hfz79_BK1_1 hcz79_BK1_2 hfz79_BK1_2 hcz79_BK12_0 hfz79_BK12_0 hcz79_BK12_1 hfz79_BK12_1 hcz79_BK12_2 hfz79_BK12_2 hcz79_BK12_3 hfz79_BK12_3 hcz79_BK46_0 hfz79_BK46_0 hcz79_BK46_1 hfz79_BK46_1 hcz79_BK46_2 hfz79_BK46_2 hcz79_BK52_0 hfz79_BK52_0 hcz79_BK52_1 hfz79_BK52_1 hcz79_BK52_2 hfz79_BK52_2 hcz79_BK52_3 hfz79_BK52_3)
    have hcz81_BK1_0 : w80_.cell? ⟨gb1_, 0, none⟩ = some (.int .i64 a1) := (blk_cell BK1.out 0).trans rfl
    have hfz81_BK1_0 := blk_frozen BK1.out 0
    have hcz81_BK1_1 : w80_.cell? ⟨gb1_, 1, none⟩ = some (.slice A1_1 l1_1.length c1_1) := (blk_cell BK1.out 1).trans rfl
    have hfz81_BK1_1 := blk_frozen BK1.out 1
    have hcz81_BK1_2 : w80_.cell? ⟨gb1_, 2, none⟩ = some (.slice A1_2 l1_2.length c1_2) := (blk_cell BK1.out 2).trans rfl
    have hfz81_BK1_2 := blk_frozen BK1.out 2
    have hcz81_BK12_0 : w80_.cell? ⟨gb12_, 0, none⟩ = some (.int .i64 r1_0) := (blk_cell BK12.out 0).trans rfl
    have hfz81_BK12_0 := blk_frozen BK12.out 0
    have hcz81_BK12_1 : w80_.cell? ⟨gb12_, 1, none⟩ = some (.int .i64 r1_1) := (blk_cell BK12.out 1).trans rfl
    have hfz81_BK12_1 := blk_frozen BK12.out 1
    have hcz81_BK12_2 : w80_.cell? ⟨gb12_, 2, none⟩ = some (.int .i64 r1_2) := (blk_cell BK12.out 2).trans rfl
    have hfz81_BK12_2 := blk_frozen BK12.out 2
    have hcz81_BK12_3 : w80_.cell? ⟨gb12_, 3, none⟩ = some (.int .i64 r1_3) := (blk_cell BK12.out 3).trans rfl
    have hfz81_BK12_3 := blk_frozen BK12.out 3
    have hcz81_BK46_0 : w80_.cell? ⟨gb46_, 0, none⟩ = some (.int .i64 a1) := (blk_cell BK46.out 0).trans rfl
    have hfz81_BK46_0 := blk_frozen BK46.out 0
    have hcz81_BK46_1 : w80_.cell? ⟨gb46_, 1, none⟩ = some (.slice (some ⟨g44_0_, 0, none⟩) l1_1.length (pad l1_1).length) := (blk_cell BK46.out 1).trans rfl
    have hfz81_BK46_1 := blk_frozen BK46.out 1
    have hcz81_BK46_2 : w80_.cell? ⟨gb46_, 2, none⟩ = some (.slice (some ⟨g44_1_, 0, none⟩) l1_2.length (pad l1_2).length) := (blk_cell BK46.out 2).trans rfl
    have hfz81_BK46_2 := blk_frozen BK46.out 2
    have hcz81_BK52_0 : w80_.cell? ⟨gb52_, 0, none⟩ = some (.int .i64 r1_0) := (blk_cell BK52.out 0).trans rfl
    have hfz81_BK52_0 := blk_frozen BK52.out 0
    have hcz81_BK52_1 : w80_.cell? ⟨gb52_, 1, none⟩ = some (.int .i64 r1_1) := (blk_cell BK52.out 1).trans rfl
    have hfz81_BK52_1 := blk_frozen BK52.out 1
    have hcz81_BK52_2 : w80_.cell? ⟨gb52_, 2, none⟩ = some (.int .i64 r1_2) := (blk_cell BK52.out 2).trans rfl
    have hfz81_BK52_2 := blk_frozen BK52.out 2
    have hcz81_BK52_3 : w80_.cell? ⟨gb52_, 3, none⟩ = some (.int .i64 r1_3) := (blk_cell BK52.out 3).trans rfl
    have hfz81_BK52_3 := blk_frozen BK52.out 3
    refine hK.out _ _ ⟨((blk_cell BK1.out 0).trans rfl), ((blk_cell BK1.out 1).trans rfl), ((blk_cell BK1.out 2).trans rfl), ((blk_cell BK12.out 0).trans rfl), ((blk_cell BK12.out 1).trans rfl), ((blk_cell BK12.out 2).trans rfl), ((blk_cell BK12.out 3).trans rfl), ((blk_cell BK46.out 0).trans rfl), ((blk_cell BK46.out 1).trans rfl), ((blk_cell BK46.out 2).trans rfl), ((blk_cell BK52.out 0).trans rfl), ((blk_cell BK52.out 1).trans rfl), ((blk_cell BK52.out 2).trans rfl), ((blk_cell BK52.out 3).trans rfl)⟩ (fun hHeld => ?_)
    clear hK K
    refine norm_ (a' := ?_) ?_ ?_
    rotate_left
    ·show Act.put _ (some 65) _ = _
     simp only [Act.put, List.setIfInBounds_toArray, List.set_cons_zero, List.set_cons_succ, i64_w, i32_w]
     rfl
    refine two_ (i := 4) (j := 8) (Ni := some 66) (Nj := some 12) #[tT, tT, tT, tT, tT, fF, fF, fF, fF, fF, fF] #[tT, tT, tT, tT, fF, fF, fF, fF, tT, fF, fF] rfl rfl rfl rfl (two_of HT_.out kf) (by decide) (by decide) (fun K hK => ?_) (fun K hK => ?_)
    ·skip
     refine goes_ Tryz.func10 kf rfl #[.slice A78_ q0.length c78_, .agg #[.int .i64 a1, .slice A80_0_ l1_1.length c80_0_, .slice A80_1_ l1_2.length c80_1_]] (by rfl) rfl rfl sm ?_
     (with_reducible refine (impl_ValueOver.calls ki _ _ q0 a1 _ _ l1_1 _ _ l1_2 r1_0 r1_1 r1_2 r1_3 r2 _ ?side1 ?side2 ?side3 ?side4 ?side5 ?side6 HI.out).mono ?_)
     (case side1 => exact cr O78_0)
     (case side2 => exact (Kd.R_reads' O78_0.out).2.1)
     (case side3 => exact cr O80_0)
     (case side4 => exact (Kd.R_reads' O80_0.out).2.1)
     (case side5 => exact cr O80_1)
     (case side6 => exact (Kd.R_reads' O80_1.out).2.1)
     rintro e w82_ ⟨rfl, hb⟩
     refine ⟨_, rfl, ?_⟩
     obtain ⟨z2_, z4_⟩ := still (by exact Z.out) bz hb
     have nO42_0_ := Aside0.mk (Kd.R_below (kr O42_0) hb)
     have nO44_0_ := Aside0.mk (Kd.R_below (kr O44_0) hb)
     have nO44_1_ := Aside0.mk (Kd.R_below (kr O44_1) hb)
     have nO58_0_ := Aside0.mk (Kd.R_below (kr O58_0) hb)
     have nO63_0_ := Aside0.mk (Kd.R_below (kr O63_0) hb)
     have nO63_1_ := Aside0.mk (Kd.R_below (kr O63_1) hb)
     have nO78_0_ := Aside0.mk (Kd.R_below (kr O78_0) hb)
     have nO80_0_ := Aside0.mk (Kd.R_below (kr O80_0) hb)
     have nO80_1_ := Aside0.mk (Kd.R_below (kr O80_1) hb)
     have nBK1_ := bb BK1 hb
     have nBK12_ := bb BK12 hb
     have nBK46_ := bb BK46 hb
     have nBK52_ := bb BK52 hb
     clear O42_0 O44_0 O44_1 O58_0 O63_0 O63_1 O78_0 O80_0 O80_1 BK1 BK12 BK46 BK52 HB Z
     have O42_0 := nO42_0_
     have O44_0 := nO44_0_
     have O44_1 := nO44_1_
     have O58_0 := nO58_0_
     have O63_0 := nO63_0_
     have O63_1 := nO63_1_
     have O78_0 := nO78_0_
     have O80_0 := nO80_0_
     have O80_1 := nO80_1_
     have BK1 := nBK1_
     have BK12 := nBK12_
     have BK46 := nBK46_
     have BK52 := nBK52_
     clear nO42_0_ nO44_0_ nO44_1_ nO58_0_ nO63_0_ nO63_1_ nO78_0_ nO80_0_ nO80_1_ nBK1_ nBK12_ nBK46_ nBK52_
     have HB := Aside0.mk z4_
     have Z := Aside0.mk z2_
     clear z2_ z4_ hb
     (try clear hcz81_BK1_0 hfz81_BK1_0 hcz81_BK1_1 hfz81_BK1_1 hcz81_BK1_2 hfz81_BK1_2 hcz81_BK12_0 hfz81_BK12_0 hcz81_BK12_1 hfz81_BK12_1 hcz81_BK12_2 hfz81_BK12_2 hcz81_BK12_3 hfz81_BK12_3 hcz81_BK46_0 hfz81_BK46_0 hcz81_BK46_1 hfz81_BK46_1 hcz81_BK46_2 hfz81_BK46_2 hcz81_BK52_0 hfz81_BK52_0 hcz81_BK52_1 hfz81_BK52_1 hcz81_BK52_2 hfz81_BK52_2 hcz81_BK52_3 hfz81_BK52_3)
     have hcz83_BK1_0 : w82_.cell? ⟨gb1_, 0, none⟩ = some (.int .i64 a1) := (blk_cell BK1.out 0).trans rfl
     have hfz83_BK1_0 := blk_frozen BK1.out 0
     have hcz83_BK1_1 : w82_.cell? ⟨gb1_, 1, none⟩ = some (.slice A1_1 l1_1.length c1_1) := (blk_cell BK1.out 1).trans rfl
     have hfz83_BK1_1 := blk_frozen BK1.out 1
     have hcz83_BK1_2 : w82_.cell? ⟨gb1_, 2, none⟩ = some (.slice A1_2 l1_2.length c1_2) := (blk_cell BK1.out 2).trans rfl
     have hfz83_BK1_2 := blk_frozen BK1.out 2
     have hcz83_BK12_0 : w82_.cell? ⟨gb12_, 0, none⟩ = some (.int .i64 r1_0) := (blk_cell BK12.out 0).trans rfl
     have hfz83_BK12_0 := blk_frozen BK12.out 0
     have hcz83_BK12_1 : w82_.cell? ⟨gb12_, 1, none⟩ = some (.int .i64 r1_1) := (blk_cell BK12.out 1).trans rfl
     have hfz83_BK12_1 := blk_frozen BK12.out 1
     have hcz83_BK12_2 : w82_.cell? ⟨gb12_, 2, none⟩ = some (.int .i64 r1_2) := (blk_cell BK12.out 2).trans rfl
     have hfz83_BK12_2 := blk_frozen BK12.out 2
     have hcz83_BK12_3 : w82_.cell? ⟨gb12_, 3, none⟩ = some (.int .i64 r1_3) := (blk_cell BK12.out 3).trans rfl
     have hfz83_BK12_3 := blk_frozen BK12.out 3
     have hcz83_BK46_0 : w82_.cell? ⟨gb46_, 0, none⟩ = some (.int .i64 a1) := (blk_cell BK46.out 0).trans rfl
     have hfz83_BK46_0 := blk_frozen BK46.out 0
     have hcz83_BK46_1 : w82_.cell? ⟨gb46_, 1, none⟩ = some (.slice (some ⟨g44_0_, 0, none⟩) l1_1.length (pad l1_1).length) := (blk_cell BK46.out 1).trans rfl
     have hfz83_BK46_1 := blk_frozen BK46.out 1
     have hcz83_BK46_2 : w82_.cell? ⟨gb46_, 2, none⟩ = some (.slice (some ⟨g44_1_, 0, none⟩) l1_2.length (pad l1_2).length) := (blk_cell BK46.out 2).trans rfl
     have hfz83_BK46_2 := blk_frozen BK46.out 2
     have hcz83_BK52_0 : w82_.cell? ⟨gb52_, 0, none⟩ = some (.int .i64 r1_0) := (blk_cell BK52.out 0).trans rfl
     have hfz83_BK52_0 := blk_frozen BK52.out 0
     have hcz83_BK52_1 : w82_.cell? ⟨gb52_, 1, none⟩ = some (.int .i64 r1_1) := (blk_cell BK52.out 1).trans rfl
     have hfz83_BK52_1 := blk_frozen BK52.out 1
     have hcz83_BK52_2 : w82_.cell? ⟨gb52_, 2, none⟩ = some (.int .i64 r1_2) := (blk_cell BK52.out 2).trans rfl
     have hfz83_BK52_2 := blk_frozen BK52.out 2
     have hcz83_BK52_3 : w82_.cell? ⟨gb52_, 3, none⟩ = some (.int .i64 r1_3) := (blk_cell BK52.out 3).trans rfl
     have hfz83_BK52_3 := blk_frozen BK52.out 3
     refine hK.out _ _ ⟨((blk_cell BK1.out 0).trans rfl), ((blk_cell BK1.out 1).trans rfl), ((blk_cell BK1.out 2).trans rfl), ((blk_cell BK12.out 0).trans rfl), ((blk_cell BK12.out 1).trans rfl), ((blk_cell BK12.out 2).trans rfl), ((blk_cell BK12.out 3).trans rfl), ((blk_cell BK46.out 0).trans rfl), ((blk_cell BK46.out 1).trans rfl), ((blk_cell BK46.out 2).trans rfl), ((blk_cell BK52.out 0).trans rfl), ((blk_cell BK52.out 1).trans rfl), ((blk_cell BK52.out 2).trans rfl), ((blk_cell BK52.out 3).trans rfl)⟩ (fun hHeld => ?_)
     clear hK K
     refine norm_ (a' := ?_) ?_ ?_
     rotate_left
     ·show Act.put _ (some 66) _ = _
      simp only [Act.put, List.setIfInBounds_toArray, List.set_cons_zero, List.set_cons_succ, i64_w, i32_w]
      rfl
     refine pq (i := 5) (N := some 61) #[tT, tT, tT, tT, tT, tT, fF, fF, fF, fF, fF] rfl rfl HT_.out ?_
     refine pq (i := 6) (N := some 67) #[tT, tT, tT, tT, tT, tT, tT, fF, fF, fF, fF] rfl rfl HT_.out ?_
     refine pq (i := 7) (N := some 68) #[tT, tT, tT, tT, tT, tT, tT, tT, fF, fF, fF] rfl rfl HT_.out ?_
     refine one_ (i := 8) (N := some 12) #[tT, tT, tT, tT, tT, tT, tT, tT, tT, fF, fF] rfl rfl (one_of HT_.out kf) (by decide) (fun K hK => ?_)
     refine box_draw (N := 12) (cs := #[.int .i64 0, .int .i64 0, .int .i64 0, .int .i64 0]) (t := 31) (by rfl) rfl ?hr ?_
     (case hr => first | (go_simp; done) | (go_simp; rfl))
     intro gb84_ hg w84_ hbox hb
     obtain ⟨z2_, z4_⟩ := still (by exact Z.out) bz hb
     have GB84 : Aside0 (b80_1_ ≤ gb84_) := ⟨by rw [hg]; exact Z.out⟩
     have GE84 : Aside0 (w.heap.size ≤ gb84_) := ⟨by rw [hg]; exact (below_size bz)⟩
     have NBBK1_84 : Aside0 (gb1_ ≠ gb84_) := ⟨by rw [hg]; exact Nat.ne_of_lt (blk_lt (w := _) (o := .cells #[.int .i64 a1, .slice A1_1 l1_1.length c1_1, .slice A1_2 l1_2.length c1_2] 25 (0, 0)) (bk BK1))⟩
     have NBBK12_84 : Aside0 (gb12_ ≠ gb84_) := ⟨by rw [hg]; exact Nat.ne_of_lt (blk_lt (w := _) (o := .cells #[.int .i64 r1_0, .int .i64 r1_1, .int .i64 r1_2, .int .i64 r1_3] 31 (0, 0)) (bk BK12))⟩
     have NBBK46_84 : Aside0 (gb46_ ≠ gb84_) := ⟨by rw [hg]; exact Nat.ne_of_lt (blk_lt (w := _) (o := .cells #[.int .i64 a1, .slice (some ⟨g44_0_, 0, none⟩) l1_1.length (pad l1_1).length, .slice (some ⟨g44_1_, 0, none⟩) l1_2.length (pad l1_2).length] 36 (0, 0)) (bk BK46))⟩
     have NBBK52_84 : Aside0 (gb52_ ≠ gb84_) := ⟨by rw [hg]; exact Nat.ne_of_lt (blk_lt (w := _) (o := .cells #[.int .i64 r1_0, .int .i64 r1_1, .int .i64 r1_2, .int .i64 r1_3] 31 (0, 0)) (bk BK52))⟩
     have nO42_0_ := Aside0.mk (Kd.R_below (kr O42_0) hb)
     have nO44_0_ := Aside0.mk (Kd.R_below (kr O44_0) hb)
     have nO44_1_ := Aside0.mk (Kd.R_below (kr O44_1) hb)
     have nO58_0_ := Aside0.mk (Kd.R_below (kr O58_0) hb)
     have nO63_0_ := Aside0.mk (Kd.R_below (kr O63_0) hb)
     have nO63_1_ := Aside0.mk (Kd.R_below (kr O63_1) hb)
     have nO78_0_ := Aside0.mk (Kd.R_below (kr O78_0) hb)
     have nO80_0_ := Aside0.mk (Kd.R_below (kr O80_0) hb)
     have nO80_1_ := Aside0.mk (Kd.R_below (kr O80_1) hb)
     have nBK1_ := bb BK1 hb
     have nBK12_ := bb BK12 hb
     have nBK46_ := bb BK46 hb
     have nBK52_ := bb BK52 hb
     have BK84 := Aside0.mk hbox
     clear O42_0 O44_0 O44_1 O58_0 O63_0 O63_1 O78_0 O80_0 O80_1 BK1 BK12 BK46 BK52 HB Z
     have O42_0 := nO42_0_
     have O44_0 := nO44_0_
     have O44_1 := nO44_1_
     have O58_0 := nO58_0_
     have O63_0 := nO63_0_
     have O63_1 := nO63_1_
     have O78_0 := nO78_0_
     have O80_0 := nO80_0_
     have O80_1 := nO80_1_
     have BK1 := nBK1_
     have BK12 := nBK12_
     have BK46 := nBK46_
     have BK52 := nBK52_
     clear nO42_0_ nO44_0_ nO44_1_ nO58_0_ nO63_0_ nO63_1_ nO78_0_ nO80_0_ nO80_1_ nBK1_ nBK12_ nBK46_ nBK52_
     have zb_ : gb84_ + 1 ≤ w84_.heap.size := blk_lt BK84.out
     have HB := Aside0.mk z4_
     have Z := Aside0.mk zb_
     clear z2_ z4_ zb_ hb hg hbox
     (try clear hcz83_BK1_0 hfz83_BK1_0 hcz83_BK1_1 hfz83_BK1_1 hcz83_BK1_2 hfz83_BK1_2 hcz83_BK12_0 hfz83_BK12_0 hcz83_BK12_1 hfz83_BK12_1 hcz83_BK12_2 hfz83_BK12_2 hcz83_BK12_3 hfz83_BK12_3 hcz83_BK46_0 hfz83_BK46_0 hcz83_BK46_1 hfz83_BK46_1 hcz83_BK46_2 hfz83_BK46_2 hcz83_BK52_0 hfz83_BK52_0 hcz83_BK52_1 hfz83_BK52_1 hcz83_BK52_2 hfz83_BK52_2 hcz83_BK52_3 hfz83_BK52_3)
     have hcz85_BK1_0 : w84_.cell? ⟨gb1_, 0, none⟩ = some (.int .i64 a1) := (blk_cell BK1.out 0).trans rfl
     have hfz85_BK1_0 := blk_frozen BK1.out 0
     have hcz85_BK1_1 : w84_.cell? ⟨gb1_, 1, none⟩ = some (.slice A1_1 l1_1.length c1_1) := (blk_cell BK1.out 1).trans rfl
     have hfz85_BK1_1 := blk_frozen BK1.out 1
     have hcz85_BK1_2 : w84_.cell? ⟨gb1_, 2, none⟩ = some (.slice A1_2 l1_2.length c1_2) := (blk_cell BK1.out 2).trans rfl
     have hfz85_BK1_2 := blk_frozen BK1.out 2
     have hcz85_BK12_0 : w84_.cell? ⟨gb12_, 0, none⟩ = some (.int .i64 r1_0) := (blk_cell BK12.out 0).trans rfl
     have hfz85_BK12_0 := blk_frozen BK12.out 0
     have hcz85_BK12_1 : w84_.cell? ⟨gb12_, 1, none⟩ = some (.int .i64 r1_1) := (blk_cell BK12.out 1).trans rfl
     have hfz85_BK12_1 := blk_frozen BK12.out 1
     have hcz85_BK12_2 : w84_.cell? ⟨gb12_, 2, none⟩ = some (.int .i64 r1_2) := (blk_cell BK12.out 2).trans rfl
     have hfz85_BK12_2 := blk_frozen BK12.out 2
     have hcz85_BK12_3 : w84_.cell? ⟨gb12_, 3, none⟩ = some (.int .i64 r1_3) := (blk_cell BK12.out 3).trans rfl
     have hfz85_BK12_3 := blk_frozen BK12.out 3
     have hcz85_BK46_0 : w84_.cell? ⟨gb46_, 0, none⟩ = some (.int .i64 a1) := (blk_cell BK46.out 0).trans rfl
     have hfz85_BK46_0 := blk_frozen BK46.out 0
     have hcz85_BK46_1 : w84_.cell? ⟨gb46_, 1, none⟩ = some (.slice (some ⟨g44_0_, 0, none⟩) l1_1.length (pad l1_1).length) := (blk_cell BK46.out 1).trans rfl
     have hfz85_BK46_1 := blk_frozen BK46.out 1
     have hcz85_BK46_2 : w84_.cell? ⟨gb46_, 2, none⟩ = some (.slice (some ⟨g44_1_, 0, none⟩) l1_2.length (pad l1_2).length) := (blk_cell BK46.out 2).trans rfl
     have hfz85_BK46_2 := blk_frozen BK46.out 2
     have hcz85_BK52_0 : w84_.cell? ⟨gb52_, 0, none⟩ = some (.int .i64 r1_0) := (blk_cell BK52.out 0).trans rfl
     have hfz85_BK52_0 := blk_frozen BK52.out 0
     have hcz85_BK52_1 : w84_.cell? ⟨gb52_, 1, none⟩ = some (.int .i64 r1_1) := (blk_cell BK52.out 1).trans rfl
     have hfz85_BK52_1 := blk_frozen BK52.out 1
     have hcz85_BK52_2 : w84_.cell? ⟨gb52_, 2, none⟩ = some (.int .i64 r1_2) := (blk_cell BK52.out 2).trans rfl
     have hfz85_BK52_2 := blk_frozen BK52.out 2
     have hcz85_BK52_3 : w84_.cell? ⟨gb52_, 3, none⟩ = some (.int .i64 r1_3) := (blk_cell BK52.out 3).trans rfl
     have hfz85_BK52_3 := blk_frozen BK52.out 3
     have hcz85_BK84_0 : w84_.cell? ⟨gb84_, 0, none⟩ = some (.int .i64 0) := (blk_cell BK84.out 0).trans rfl
     have hfz85_BK84_0 := blk_frozen BK84.out 0
     have hcz85_BK84_1 : w84_.cell? ⟨gb84_, 1, none⟩ = some (.int .i64 0) := (blk_cell BK84.out 1).trans rfl
     have hfz85_BK84_1 := blk_frozen BK84.out 1
     have hcz85_BK84_2 : w84_.cell? ⟨gb84_, 2, none⟩ = some (.int .i64 0) := (blk_cell BK84.out 2).trans rfl
     have hfz85_BK84_2 := blk_frozen BK84.out 2
     have hcz85_BK84_3 : w84_.cell? ⟨gb84_, 3, none⟩ = some (.int .i64 0) := (blk_cell BK84.out 3).trans rfl
     have hfz85_BK84_3 := blk_frozen BK84.out 3
     refine hK.out _ _ ⟨((blk_cell BK1.out 0).trans rfl), ((blk_cell BK1.out 1).trans rfl), ((blk_cell BK1.out 2).trans rfl), ((blk_cell BK12.out 0).trans rfl), ((blk_cell BK12.out 1).trans rfl), ((blk_cell BK12.out 2).trans rfl), ((blk_cell BK12.out 3).trans rfl), ((blk_cell BK46.out 0).trans rfl), ((blk_cell BK46.out 1).trans rfl), ((blk_cell BK46.out 2).trans rfl), ((blk_cell BK52.out 0).trans rfl), ((blk_cell BK52.out 1).trans rfl), ((blk_cell BK52.out 2).trans rfl), ((blk_cell BK52.out 3).trans rfl)⟩ (fun hHeld => ?_)
     clear hK K
     refine norm_ (a' := ?_) ?_ ?_
     rotate_left
     ·show Act.put _ (some 12) _ = _
      simp only [Act.put, List.setIfInBounds_toArray, List.set_cons_zero, List.set_cons_succ, i64_w, i32_w]
      rfl
     exact norm_ (by simp only [putAll, Act.put, List.setIfInBounds_toArray, List.set_cons_zero, List.set_cons_succ]) (hCont ((.slice A78_ q0.length c78_ : Value), (.agg #[.int .i64 a1, .slice A80_0_ l1_1.length c80_0_, .slice A80_1_ l1_2.length c80_1_] : Value), (gb84_ : Nat)) _ ⟨((blk_cell BK1.out 0).trans rfl), ((blk_cell BK1.out 1).trans rfl), ((blk_cell BK1.out 2).trans rfl), ((blk_cell BK12.out 0).trans rfl), ((blk_cell BK12.out 1).trans rfl), ((blk_cell BK12.out 2).trans rfl), ((blk_cell BK12.out 3).trans rfl), ((blk_cell BK46.out 0).trans rfl), ((blk_cell BK46.out 1).trans rfl), ((blk_cell BK46.out 2).trans rfl), ((blk_cell BK52.out 0).trans rfl), ((blk_cell BK52.out 1).trans rfl), ((blk_cell BK52.out 2).trans rfl), ((blk_cell BK52.out 3).trans rfl), O42_0.out, O44_0.out, O44_1.out, O58_0.out, O63_0.out, O63_1.out, BK1.out, BK12.out, BK46.out, BK52.out, BK84.out, (show b63_1_ ≤ gb84_ from by have := GB84.out; have := GB1.out; have := GB12.out; have := Q42_0.out; have := Q44_1.out; have := GB46.out; have := GB52.out; have := Q58_0.out; have := Q63_1.out; have := Q78_0.out; have := Q80_1.out; have := GB84.out; omega), GE84.out, NBBK1_84.out, NBBK12_84.out, NBBK46_84.out, NBBK52_84.out, HB.out, (blk_lt BK84.out)⟩)
    ·skip
     refine box_draw (N := 12) (cs := #[.int .i64 0, .int .i64 0, .int .i64 0, .int .i64 0]) (t := 31) (by rfl) rfl ?hr ?_
     (case hr => first | (go_simp; done) | (go_simp; rfl))
     intro gb86_ hg w86_ hbox hb
     obtain ⟨z2_, z4_⟩ := still (by exact Z.out) bz hb
     have GB86 : Aside0 (b80_1_ ≤ gb86_) := ⟨by rw [hg]; exact Z.out⟩
     have GE86 : Aside0 (w.heap.size ≤ gb86_) := ⟨by rw [hg]; exact (below_size bz)⟩
     have NBBK1_86 : Aside0 (gb1_ ≠ gb86_) := ⟨by rw [hg]; exact Nat.ne_of_lt (blk_lt (w := _) (o := .cells #[.int .i64 a1, .slice A1_1 l1_1.length c1_1, .slice A1_2 l1_2.length c1_2] 25 (0, 0)) (bk BK1))⟩
     have NBBK12_86 : Aside0 (gb12_ ≠ gb86_) := ⟨by rw [hg]; exact Nat.ne_of_lt (blk_lt (w := _) (o := .cells #[.int .i64 r1_0, .int .i64 r1_1, .int .i64 r1_2, .int .i64 r1_3] 31 (0, 0)) (bk BK12))⟩
     have NBBK46_86 : Aside0 (gb46_ ≠ gb86_) := ⟨by rw [hg]; exact Nat.ne_of_lt (blk_lt (w := _) (o := .cells #[.int .i64 a1, .slice (some ⟨g44_0_, 0, none⟩) l1_1.length (pad l1_1).length, .slice (some ⟨g44_1_, 0, none⟩) l1_2.length (pad l1_2).length] 36 (0, 0)) (bk BK46))⟩
     have NBBK52_86 : Aside0 (gb52_ ≠ gb86_) := ⟨by rw [hg]; exact Nat.ne_of_lt (blk_lt (w := _) (o := .cells #[.int .i64 r1_0, .int .i64 r1_1, .int .i64 r1_2, .int .i64 r1_3] 31 (0, 0)) (bk BK52))⟩
     have nO42_0_ := Aside0.mk (Kd.R_below (kr O42_0) hb)
     have nO44_0_ := Aside0.mk (Kd.R_below (kr O44_0) hb)
     have nO44_1_ := Aside0.mk (Kd.R_below (kr O44_1) hb)
     have nO58_0_ := Aside0.mk (Kd.R_below (kr O58_0) hb)
     have nO63_0_ := Aside0.mk (Kd.R_below (kr O63_0) hb)
     have nO63_1_ := Aside0.mk (Kd.R_below (kr O63_1) hb)
     have nO78_0_ := Aside0.mk (Kd.R_below (kr O78_0) hb)
     have nO80_0_ := Aside0.mk (Kd.R_below (kr O80_0) hb)
     have nO80_1_ := Aside0.mk (Kd.R_below (kr O80_1) hb)
     have nBK1_ := bb BK1 hb
     have nBK12_ := bb BK12 hb
     have nBK46_ := bb BK46 hb
     have nBK52_ := bb BK52 hb
     have BK86 := Aside0.mk hbox
     clear O42_0 O44_0 O44_1 O58_0 O63_0 O63_1 O78_0 O80_0 O80_1 BK1 BK12 BK46 BK52 HB Z
     have O42_0 := nO42_0_
     have O44_0 := nO44_0_
     have O44_1 := nO44_1_
     have O58_0 := nO58_0_
     have O63_0 := nO63_0_
     have O63_1 := nO63_1_
     have O78_0 := nO78_0_
     have O80_0 := nO80_0_
     have O80_1 := nO80_1_
     have BK1 := nBK1_
     have BK12 := nBK12_
     have BK46 := nBK46_
     have BK52 := nBK52_
     clear nO42_0_ nO44_0_ nO44_1_ nO58_0_ nO63_0_ nO63_1_ nO78_0_ nO80_0_ nO80_1_ nBK1_ nBK12_ nBK46_ nBK52_
     have zb_ : gb86_ + 1 ≤ w86_.heap.size := blk_lt BK86.out
     have HB := Aside0.mk z4_
     have Z := Aside0.mk zb_
     clear z2_ z4_ zb_ hb hg hbox
     (try clear hcz81_BK1_0 hfz81_BK1_0 hcz81_BK1_1 hfz81_BK1_1 hcz81_BK1_2 hfz81_BK1_2 hcz81_BK12_0 hfz81_BK12_0 hcz81_BK12_1 hfz81_BK12_1 hcz81_BK12_2 hfz81_BK12_2 hcz81_BK12_3 hfz81_BK12_3 hcz81_BK46_0 hfz81_BK46_0 hcz81_BK46_1 hfz81_BK46_1 hcz81_BK46_2 hfz81_BK46_2 hcz81_BK52_0 hfz81_BK52_0 hcz81_BK52_1 hfz81_BK52_1 hcz81_BK52_2 hfz81_BK52_2 hcz81_BK52_3 hfz81_BK52_3)
     have hcz87_BK1_0 : w86_.cell? ⟨gb1_, 0, none⟩ = some (.int .i64 a1) := (blk_cell BK1.out 0).trans rfl
     have hfz87_BK1_0 := blk_frozen BK1.out 0
     have hcz87_BK1_1 : w86_.cell? ⟨gb1_, 1, none⟩ = some (.slice A1_1 l1_1.length c1_1) := (blk_cell BK1.out 1).trans rfl
     have hfz87_BK1_1 := blk_frozen BK1.out 1
     have hcz87_BK1_2 : w86_.cell? ⟨gb1_, 2, none⟩ = some (.slice A1_2 l1_2.length c1_2) := (blk_cell BK1.out 2).trans rfl
     have hfz87_BK1_2 := blk_frozen BK1.out 2
     have hcz87_BK12_0 : w86_.cell? ⟨gb12_, 0, none⟩ = some (.int .i64 r1_0) := (blk_cell BK12.out 0).trans rfl
     have hfz87_BK12_0 := blk_frozen BK12.out 0
     have hcz87_BK12_1 : w86_.cell? ⟨gb12_, 1, none⟩ = some (.int .i64 r1_1) := (blk_cell BK12.out 1).trans rfl
     have hfz87_BK12_1 := blk_frozen BK12.out 1
     have hcz87_BK12_2 : w86_.cell? ⟨gb12_, 2, none⟩ = some (.int .i64 r1_2) := (blk_cell BK12.out 2).trans rfl
     have hfz87_BK12_2 := blk_frozen BK12.out 2
     have hcz87_BK12_3 : w86_.cell? ⟨gb12_, 3, none⟩ = some (.int .i64 r1_3) := (blk_cell BK12.out 3).trans rfl
     have hfz87_BK12_3 := blk_frozen BK12.out 3
     have hcz87_BK46_0 : w86_.cell? ⟨gb46_, 0, none⟩ = some (.int .i64 a1) := (blk_cell BK46.out 0).trans rfl
     have hfz87_BK46_0 := blk_frozen BK46.out 0
     have hcz87_BK46_1 : w86_.cell? ⟨gb46_, 1, none⟩ = some (.slice (some ⟨g44_0_, 0, none⟩) l1_1.length (pad l1_1).length) := (blk_cell BK46.out 1).trans rfl
     have hfz87_BK46_1 := blk_frozen BK46.out 1
     have hcz87_BK46_2 : w86_.cell? ⟨gb46_, 2, none⟩ = some (.slice (some ⟨g44_1_, 0, none⟩) l1_2.length (pad l1_2).length) := (blk_cell BK46.out 2).trans rfl
     have hfz87_BK46_2 := blk_frozen BK46.out 2
     have hcz87_BK52_0 : w86_.cell? ⟨gb52_, 0, none⟩ = some (.int .i64 r1_0) := (blk_cell BK52.out 0).trans rfl
     have hfz87_BK52_0 := blk_frozen BK52.out 0
     have hcz87_BK52_1 : w86_.cell? ⟨gb52_, 1, none⟩ = some (.int .i64 r1_1) := (blk_cell BK52.out 1).trans rfl
     have hfz87_BK52_1 := blk_frozen BK52.out 1
     have hcz87_BK52_2 : w86_.cell? ⟨gb52_, 2, none⟩ = some (.int .i64 r1_2) := (blk_cell BK52.out 2).trans rfl
     have hfz87_BK52_2 := blk_frozen BK52.out 2
     have hcz87_BK52_3 : w86_.cell? ⟨gb52_, 3, none⟩ = some (.int .i64 r1_3) := (blk_cell BK52.out 3).trans rfl
     have hfz87_BK52_3 := blk_frozen BK52.out 3
     have hcz87_BK86_0 : w86_.cell? ⟨gb86_, 0, none⟩ = some (.int .i64 0) := (blk_cell BK86.out 0).trans rfl
     have hfz87_BK86_0 := blk_frozen BK86.out 0
     have hcz87_BK86_1 : w86_.cell? ⟨gb86_, 1, none⟩ = some (.int .i64 0) := (blk_cell BK86.out 1).trans rfl
     have hfz87_BK86_1 := blk_frozen BK86.out 1
     have hcz87_BK86_2 : w86_.cell? ⟨gb86_, 2, none⟩ = some (.int .i64 0) := (blk_cell BK86.out 2).trans rfl
     have hfz87_BK86_2 := blk_frozen BK86.out 2
     have hcz87_BK86_3 : w86_.cell? ⟨gb86_, 3, none⟩ = some (.int .i64 0) := (blk_cell BK86.out 3).trans rfl
     have hfz87_BK86_3 := blk_frozen BK86.out 3
     refine hK.out _ _ ⟨((blk_cell BK1.out 0).trans rfl), ((blk_cell BK1.out 1).trans rfl), ((blk_cell BK1.out 2).trans rfl), ((blk_cell BK12.out 0).trans rfl), ((blk_cell BK12.out 1).trans rfl), ((blk_cell BK12.out 2).trans rfl), ((blk_cell BK12.out 3).trans rfl), ((blk_cell BK46.out 0).trans rfl), ((blk_cell BK46.out 1).trans rfl), ((blk_cell BK46.out 2).trans rfl), ((blk_cell BK52.out 0).trans rfl), ((blk_cell BK52.out 1).trans rfl), ((blk_cell BK52.out 2).trans rfl), ((blk_cell BK52.out 3).trans rfl)⟩ (fun hHeld => ?_)
     clear hK K
     refine norm_ (a' := ?_) ?_ ?_
     rotate_left
     ·show Act.put _ (some 12) _ = _
      simp only [Act.put, List.setIfInBounds_toArray, List.set_cons_zero, List.set_cons_succ, i64_w, i32_w]
      rfl
     refine one_ (i := 4) (N := some 66) #[tT, tT, tT, tT, tT, fF, fF, fF, tT, fF, fF] rfl rfl (one_of HT_.out kf) (by decide) (fun K hK => ?_)
     refine goes_ Tryz.func10 kf rfl #[.slice A78_ q0.length c78_, .agg #[.int .i64 a1, .slice A80_0_ l1_1.length c80_0_, .slice A80_1_ l1_2.length c80_1_]] (by rfl) rfl rfl sm ?_
     (with_reducible refine (impl_ValueOver.calls ki _ _ q0 a1 _ _ l1_1 _ _ l1_2 r1_0 r1_1 r1_2 r1_3 r2 _ ?side1 ?side2 ?side3 ?side4 ?side5 ?side6 HI.out).mono ?_)
     (case side1 => exact cr O78_0)
     (case side2 => exact (Kd.R_reads' O78_0.out).2.1)
     (case side3 => exact cr O80_0)
     (case side4 => exact (Kd.R_reads' O80_0.out).2.1)
     (case side5 => exact cr O80_1)
     (case side6 => exact (Kd.R_reads' O80_1.out).2.1)
     rintro e w88_ ⟨rfl, hb⟩
     refine ⟨_, rfl, ?_⟩
     obtain ⟨z2_, z4_⟩ := still (by exact Z.out) bz hb
     have nO42_0_ := Aside0.mk (Kd.R_below (kr O42_0) hb)
     have nO44_0_ := Aside0.mk (Kd.R_below (kr O44_0) hb)
     have nO44_1_ := Aside0.mk (Kd.R_below (kr O44_1) hb)
     have nO58_0_ := Aside0.mk (Kd.R_below (kr O58_0) hb)
     have nO63_0_ := Aside0.mk (Kd.R_below (kr O63_0) hb)
     have nO63_1_ := Aside0.mk (Kd.R_below (kr O63_1) hb)
     have nO78_0_ := Aside0.mk (Kd.R_below (kr O78_0) hb)
     have nO80_0_ := Aside0.mk (Kd.R_below (kr O80_0) hb)
     have nO80_1_ := Aside0.mk (Kd.R_below (kr O80_1) hb)
     have nBK1_ := bb BK1 hb
     have nBK12_ := bb BK12 hb
     have nBK46_ := bb BK46 hb
     have nBK52_ := bb BK52 hb
     have nBK86_ := bb BK86 hb
     clear O42_0 O44_0 O44_1 O58_0 O63_0 O63_1 O78_0 O80_0 O80_1 BK1 BK12 BK46 BK52 BK86 HB Z
     have O42_0 := nO42_0_
     have O44_0 := nO44_0_
     have O44_1 := nO44_1_
     have O58_0 := nO58_0_
     have O63_0 := nO63_0_
     have O63_1 := nO63_1_
     have O78_0 := nO78_0_
     have O80_0 := nO80_0_
     have O80_1 := nO80_1_
     have BK1 := nBK1_
     have BK12 := nBK12_
     have BK46 := nBK46_
     have BK52 := nBK52_
     have BK86 := nBK86_
     clear nO42_0_ nO44_0_ nO44_1_ nO58_0_ nO63_0_ nO63_1_ nO78_0_ nO80_0_ nO80_1_ nBK1_ nBK12_ nBK46_ nBK52_ nBK86_
     have HB := Aside0.mk z4_
     have Z := Aside0.mk z2_
     clear z2_ z4_ hb
     (try clear hcz87_BK1_0 hfz87_BK1_0 hcz87_BK1_1 hfz87_BK1_1 hcz87_BK1_2 hfz87_BK1_2 hcz87_BK12_0 hfz87_BK12_0 hcz87_BK12_1 hfz87_BK12_1 hcz87_BK12_2 hfz87_BK12_2 hcz87_BK12_3 hfz87_BK12_3 hcz87_BK46_0 hfz87_BK46_0 hcz87_BK46_1 hfz87_BK46_1 hcz87_BK46_2 hfz87_BK46_2 hcz87_BK52_0 hfz87_BK52_0 hcz87_BK52_1 hfz87_BK52_1 hcz87_BK52_2 hfz87_BK52_2 hcz87_BK52_3 hfz87_BK52_3 hcz87_BK86_0 hfz87_BK86_0 hcz87_BK86_1 hfz87_BK86_1 hcz87_BK86_2 hfz87_BK86_2 hcz87_BK86_3 hfz87_BK86_3)
     have hcz89_BK1_0 : w88_.cell? ⟨gb1_, 0, none⟩ = some (.int .i64 a1) := (blk_cell BK1.out 0).trans rfl
     have hfz89_BK1_0 := blk_frozen BK1.out 0
     have hcz89_BK1_1 : w88_.cell? ⟨gb1_, 1, none⟩ = some (.slice A1_1 l1_1.length c1_1) := (blk_cell BK1.out 1).trans rfl
     have hfz89_BK1_1 := blk_frozen BK1.out 1
     have hcz89_BK1_2 : w88_.cell? ⟨gb1_, 2, none⟩ = some (.slice A1_2 l1_2.length c1_2) := (blk_cell BK1.out 2).trans rfl
     have hfz89_BK1_2 := blk_frozen BK1.out 2
     have hcz89_BK12_0 : w88_.cell? ⟨gb12_, 0, none⟩ = some (.int .i64 r1_0) := (blk_cell BK12.out 0).trans rfl
     have hfz89_BK12_0 := blk_frozen BK12.out 0
     have hcz89_BK12_1 : w88_.cell? ⟨gb12_, 1, none⟩ = some (.int .i64 r1_1) := (blk_cell BK12.out 1).trans rfl
     have hfz89_BK12_1 := blk_frozen BK12.out 1
     have hcz89_BK12_2 : w88_.cell? ⟨gb12_, 2, none⟩ = some (.int .i64 r1_2) := (blk_cell BK12.out 2).trans rfl
     have hfz89_BK12_2 := blk_frozen BK12.out 2
     have hcz89_BK12_3 : w88_.cell? ⟨gb12_, 3, none⟩ = some (.int .i64 r1_3) := (blk_cell BK12.out 3).trans rfl
     have hfz89_BK12_3 := blk_frozen BK12.out 3
     have hcz89_BK46_0 : w88_.cell? ⟨gb46_, 0, none⟩ = some (.int .i64 a1) := (blk_cell BK46.out 0).trans rfl
     have hfz89_BK46_0 := blk_frozen BK46.out 0
     have hcz89_BK46_1 : w88_.cell? ⟨gb46_, 1, none⟩ = some (.slice (some ⟨g44_0_, 0, none⟩) l1_1.length (pad l1_1).length) := (blk_cell BK46.out 1).trans rfl
     have hfz89_BK46_1 := blk_frozen BK46.out 1
     have hcz89_BK46_2 : w88_.cell? ⟨gb46_, 2, none⟩ = some (.slice (some ⟨g44_1_, 0, none⟩) l1_2.length (pad l1_2).length) := (blk_cell BK46.out 2).trans rfl
     have hfz89_BK46_2 := blk_frozen BK46.out 2
     have hcz89_BK52_0 : w88_.cell? ⟨gb52_, 0, none⟩ = some (.int .i64 r1_0) := (blk_cell BK52.out 0).trans rfl
     have hfz89_BK52_0 := blk_frozen BK52.out 0
     have hcz89_BK52_1 : w88_.cell? ⟨gb52_, 1, none⟩ = some (.int .i64 r1_1) := (blk_cell BK52.out 1).trans rfl
     have hfz89_BK52_1 := blk_frozen BK52.out 1
     have hcz89_BK52_2 : w88_.cell? ⟨gb52_, 2, none⟩ = some (.int .i64 r1_2) := (blk_cell BK52.out 2).trans rfl
     have hfz89_BK52_2 := blk_frozen BK52.out 2
     have hcz89_BK52_3 : w88_.cell? ⟨gb52_, 3, none⟩ = some (.int .i64 r1_3) := (blk_cell BK52.out 3).trans rfl
     have hfz89_BK52_3 := blk_frozen BK52.out 3
     have hcz89_BK86_0 : w88_.cell? ⟨gb86_, 0, none⟩ = some (.int .i64 0) := (blk_cell BK86.out 0).trans rfl
     have hfz89_BK86_0 := blk_frozen BK86.out 0
     have hcz89_BK86_1 : w88_.cell? ⟨gb86_, 1, none⟩ = some (.int .i64 0) := (blk_cell BK86.out 1).trans rfl
     have hfz89_BK86_1 := blk_frozen BK86.out 1
     have hcz89_BK86_2 : w88_.cell? ⟨gb86_, 2, none⟩ = some (.int .i64 0) := (blk_cell BK86.out 2).trans rfl
     have hfz89_BK86_2 := blk_frozen BK86.out 2
     have hcz89_BK86_3 : w88_.cell? ⟨gb86_, 3, none⟩ = some (.int .i64 0) := (blk_cell BK86.out 3).trans rfl
     have hfz89_BK86_3 := blk_frozen BK86.out 3
     refine hK.out _ _ ⟨((blk_cell BK1.out 0).trans rfl), ((blk_cell BK1.out 1).trans rfl), ((blk_cell BK1.out 2).trans rfl), ((blk_cell BK12.out 0).trans rfl), ((blk_cell BK12.out 1).trans rfl), ((blk_cell BK12.out 2).trans rfl), ((blk_cell BK12.out 3).trans rfl), ((blk_cell BK46.out 0).trans rfl), ((blk_cell BK46.out 1).trans rfl), ((blk_cell BK46.out 2).trans rfl), ((blk_cell BK52.out 0).trans rfl), ((blk_cell BK52.out 1).trans rfl), ((blk_cell BK52.out 2).trans rfl), ((blk_cell BK52.out 3).trans rfl)⟩ (fun hHeld => ?_)
     clear hK K
     refine norm_ (a' := ?_) ?_ ?_
     rotate_left
     ·show Act.put _ (some 66) _ = _
      simp only [Act.put, List.setIfInBounds_toArray, List.set_cons_zero, List.set_cons_succ, i64_w, i32_w]
      rfl
     refine pq (i := 5) (N := some 61) #[tT, tT, tT, tT, tT, tT, fF, fF, tT, fF, fF] rfl rfl HT_.out ?_
     refine pq (i := 6) (N := some 67) #[tT, tT, tT, tT, tT, tT, tT, fF, tT, fF, fF] rfl rfl HT_.out ?_
     refine pq (i := 7) (N := some 68) #[tT, tT, tT, tT, tT, tT, tT, tT, tT, fF, fF] rfl rfl HT_.out ?_
     exact norm_ (by simp only [putAll, Act.put, List.setIfInBounds_toArray, List.set_cons_zero, List.set_cons_succ]) (hCont ((.slice A78_ q0.length c78_ : Value), (.agg #[.int .i64 a1, .slice A80_0_ l1_1.length c80_0_, .slice A80_1_ l1_2.length c80_1_] : Value), (gb86_ : Nat)) _ ⟨((blk_cell BK1.out 0).trans rfl), ((blk_cell BK1.out 1).trans rfl), ((blk_cell BK1.out 2).trans rfl), ((blk_cell BK12.out 0).trans rfl), ((blk_cell BK12.out 1).trans rfl), ((blk_cell BK12.out 2).trans rfl), ((blk_cell BK12.out 3).trans rfl), ((blk_cell BK46.out 0).trans rfl), ((blk_cell BK46.out 1).trans rfl), ((blk_cell BK46.out 2).trans rfl), ((blk_cell BK52.out 0).trans rfl), ((blk_cell BK52.out 1).trans rfl), ((blk_cell BK52.out 2).trans rfl), ((blk_cell BK52.out 3).trans rfl), O42_0.out, O44_0.out, O44_1.out, O58_0.out, O63_0.out, O63_1.out, BK1.out, BK12.out, BK46.out, BK52.out, BK86.out, (show b63_1_ ≤ gb86_ from by have := GB86.out; have := GB1.out; have := GB12.out; have := Q42_0.out; have := Q44_1.out; have := GB46.out; have := GB52.out; have := Q58_0.out; have := Q63_1.out; have := Q78_0.out; have := Q80_1.out; have := GB86.out; omega), GE86.out, NBBK1_86.out, NBBK12_86.out, NBBK46_86.out, NBBK52_86.out, HB.out, (blk_lt BK86.out)⟩)
   ·skip
    refine box_draw (N := 12) (cs := #[.int .i64 0, .int .i64 0, .int .i64 0, .int .i64 0]) (t := 31) (by rfl) rfl ?hr ?_
    (case hr => first | (go_simp; done) | (go_simp; rfl))
    intro gb90_ hg w90_ hbox hb
    obtain ⟨z2_, z4_⟩ := still (by exact Z.out) bz hb
    have GB90 : Aside0 (b78_0_ ≤ gb90_) := ⟨by rw [hg]; exact Z.out⟩
    have GE90 : Aside0 (w.heap.size ≤ gb90_) := ⟨by rw [hg]; exact (below_size bz)⟩
    have NBBK1_90 : Aside0 (gb1_ ≠ gb90_) := ⟨by rw [hg]; exact Nat.ne_of_lt (blk_lt (w := _) (o := .cells #[.int .i64 a1, .slice A1_1 l1_1.length c1_1, .slice A1_2 l1_2.length c1_2] 25 (0, 0)) (bk BK1))⟩
    have NBBK12_90 : Aside0 (gb12_ ≠ gb90_) := ⟨by rw [hg]; exact Nat.ne_of_lt (blk_lt (w := _) (o := .cells #[.int .i64 r1_0, .int .i64 r1_1, .int .i64 r1_2, .int .i64 r1_3] 31 (0, 0)) (bk BK12))⟩
    have NBBK46_90 : Aside0 (gb46_ ≠ gb90_) := ⟨by rw [hg]; exact Nat.ne_of_lt (blk_lt (w := _) (o := .cells #[.int .i64 a1, .slice (some ⟨g44_0_, 0, none⟩) l1_1.length (pad l1_1).length, .slice (some ⟨g44_1_, 0, none⟩) l1_2.length (pad l1_2).length] 36 (0, 0)) (bk BK46))⟩
    have NBBK52_90 : Aside0 (gb52_ ≠ gb90_) := ⟨by rw [hg]; exact Nat.ne_of_lt (blk_lt (w := _) (o := .cells #[.int .i64 r1_0, .int .i64 r1_1, .int .i64 r1_2, .int .i64 r1_3] 31 (0, 0)) (bk BK52))⟩
    have nO42_0_ := Aside0.mk (Kd.R_below (kr O42_0) hb)
    have nO44_0_ := Aside0.mk (Kd.R_below (kr O44_0) hb)
    have nO44_1_ := Aside0.mk (Kd.R_below (kr O44_1) hb)
    have nO58_0_ := Aside0.mk (Kd.R_below (kr O58_0) hb)
    have nO63_0_ := Aside0.mk (Kd.R_below (kr O63_0) hb)
    have nO63_1_ := Aside0.mk (Kd.R_below (kr O63_1) hb)
    have nO78_0_ := Aside0.mk (Kd.R_below (kr O78_0) hb)
    have nBK1_ := bb BK1 hb
    have nBK12_ := bb BK12 hb
    have nBK46_ := bb BK46 hb
    have nBK52_ := bb BK52 hb
    have BK90 := Aside0.mk hbox
    clear O42_0 O44_0 O44_1 O58_0 O63_0 O63_1 O78_0 BK1 BK12 BK46 BK52 HB Z
    have O42_0 := nO42_0_
    have O44_0 := nO44_0_
    have O44_1 := nO44_1_
    have O58_0 := nO58_0_
    have O63_0 := nO63_0_
    have O63_1 := nO63_1_
    have O78_0 := nO78_0_
    have BK1 := nBK1_
    have BK12 := nBK12_
    have BK46 := nBK46_
    have BK52 := nBK52_
    clear nO42_0_ nO44_0_ nO44_1_ nO58_0_ nO63_0_ nO63_1_ nO78_0_ nBK1_ nBK12_ nBK46_ nBK52_
    have zb_ : gb90_ + 1 ≤ w90_.heap.size := blk_lt BK90.out
    have HB := Aside0.mk z4_
    have Z := Aside0.mk zb_
    clear z2_ z4_ zb_ hb hg hbox
    (try clear hcz79_BK1_0 hfz79_BK1_0 hcz79_BK1_1 hfz79_BK1_1 hcz79_BK1_2 hfz79_BK1_2 hcz79_BK12_0 hfz79_BK12_0 hcz79_BK12_1 hfz79_BK12_1 hcz79_BK12_2 hfz79_BK12_2 hcz79_BK12_3 hfz79_BK12_3 hcz79_BK46_0 hfz79_BK46_0 hcz79_BK46_1 hfz79_BK46_1 hcz79_BK46_2 hfz79_BK46_2 hcz79_BK52_0 hfz79_BK52_0 hcz79_BK52_1 hfz79_BK52_1 hcz79_BK52_2 hfz79_BK52_2 hcz79_BK52_3 hfz79_BK52_3)
    have hcz91_BK1_0 : w90_.cell? ⟨gb1_, 0, none⟩ = some (.int .i64 a1) := (blk_cell BK1.out 0).trans rfl
    have hfz91_BK1_0 := blk_frozen BK1.out 0
    have hcz91_BK1_1 : w90_.cell? ⟨gb1_, 1, none⟩ = some (.slice A1_1 l1_1.length c1_1) := (blk_cell BK1.out 1).trans rfl
    have hfz91_BK1_1 := blk_frozen BK1.out 1
    have hcz91_BK1_2 : w90_.cell? ⟨gb1_, 2, none⟩ = some (.slice A1_2 l1_2.length c1_2) := (blk_cell BK1.out 2).trans rfl
    have hfz91_BK1_2 := blk_frozen BK1.out 2
    have hcz91_BK12_0 : w90_.cell? ⟨gb12_, 0, none⟩ = some (.int .i64 r1_0) := (blk_cell BK12.out 0).trans rfl
    have hfz91_BK12_0 := blk_frozen BK12.out 0
    have hcz91_BK12_1 : w90_.cell? ⟨gb12_, 1, none⟩ = some (.int .i64 r1_1) := (blk_cell BK12.out 1).trans rfl
    have hfz91_BK12_1 := blk_frozen BK12.out 1
    have hcz91_BK12_2 : w90_.cell? ⟨gb12_, 2, none⟩ = some (.int .i64 r1_2) := (blk_cell BK12.out 2).trans rfl
    have hfz91_BK12_2 := blk_frozen BK12.out 2
    have hcz91_BK12_3 : w90_.cell? ⟨gb12_, 3, none⟩ = some (.int .i64 r1_3) := (blk_cell BK12.out 3).trans rfl
    have hfz91_BK12_3 := blk_frozen BK12.out 3
    have hcz91_BK46_0 : w90_.cell? ⟨gb46_, 0, none⟩ = some (.int .i64 a1) := (blk_cell BK46.out 0).trans rfl
    have hfz91_BK46_0 := blk_frozen BK46.out 0
    have hcz91_BK46_1 : w90_.cell? ⟨gb46_, 1, none⟩ = some (.slice (some ⟨g44_0_, 0, none⟩) l1_1.length (pad l1_1).length) := (blk_cell BK46.out 1).trans rfl
    have hfz91_BK46_1 := blk_frozen BK46.out 1
    have hcz91_BK46_2 : w90_.cell? ⟨gb46_, 2, none⟩ = some (.slice (some ⟨g44_1_, 0, none⟩) l1_2.length (pad l1_2).length) := (blk_cell BK46.out 2).trans rfl
    have hfz91_BK46_2 := blk_frozen BK46.out 2
    have hcz91_BK52_0 : w90_.cell? ⟨gb52_, 0, none⟩ = some (.int .i64 r1_0) := (blk_cell BK52.out 0).trans rfl
    have hfz91_BK52_0 := blk_frozen BK52.out 0
    have hcz91_BK52_1 : w90_.cell? ⟨gb52_, 1, none⟩ = some (.int .i64 r1_1) := (blk_cell BK52.out 1).trans rfl
    have hfz91_BK52_1 := blk_frozen BK52.out 1
    have hcz91_BK52_2 : w90_.cell? ⟨gb52_, 2, none⟩ = some (.int .i64 r1_2) := (blk_cell BK52.out 2).trans rfl
    have hfz91_BK52_2 := blk_frozen BK52.out 2
    have hcz91_BK52_3 : w90_.cell? ⟨gb52_, 3, none⟩ = some (.int .i64 r1_3) := (blk_cell BK52.out 3).trans rfl
    have hfz91_BK52_3 := blk_frozen BK52.out 3
    have hcz91_BK90_0 : w90_.cell? ⟨gb90_, 0, none⟩ = some (.int .i64 0) := (blk_cell BK90.out 0).trans rfl
    have hfz91_BK90_0 := blk_frozen BK90.out 0
    have hcz91_BK90_1 : w90_.cell? ⟨gb90_, 1, none⟩ = some (.int .i64 0) := (blk_cell BK90.out 1).trans rfl
    have hfz91_BK90_1 := blk_frozen BK90.out 1
    have hcz91_BK90_2 : w90_.cell? ⟨gb90_, 2, none⟩ = some (.int .i64 0) := (blk_cell BK90.out 2).trans rfl
    have hfz91_BK90_2 := blk_frozen BK90.out 2
    have hcz91_BK90_3 : w90_.cell? ⟨gb90_, 3, none⟩ = some (.int .i64 0) := (blk_cell BK90.out 3).trans rfl
    have hfz91_BK90_3 := blk_frozen BK90.out 3
    refine hK.out _ _ ⟨((blk_cell BK1.out 0).trans rfl), ((blk_cell BK1.out 1).trans rfl), ((blk_cell BK1.out 2).trans rfl), ((blk_cell BK12.out 0).trans rfl), ((blk_cell BK12.out 1).trans rfl), ((blk_cell BK12.out 2).trans rfl), ((blk_cell BK12.out 3).trans rfl), ((blk_cell BK46.out 0).trans rfl), ((blk_cell BK46.out 1).trans rfl), ((blk_cell BK46.out 2).trans rfl), ((blk_cell BK52.out 0).trans rfl), ((blk_cell BK52.out 1).trans rfl), ((blk_cell BK52.out 2).trans rfl), ((blk_cell BK52.out 3).trans rfl)⟩ (fun hHeld => ?_)
    clear hK K
    refine norm_ (a' := ?_) ?_ ?_
    rotate_left
    ·show Act.put _ (some 12) _ = _
     simp only [Act.put, List.setIfInBounds_toArray, List.set_cons_zero, List.set_cons_succ, i64_w, i32_w]
     rfl
    refine one_ (i := 3) (N := some 65) #[tT, tT, tT, tT, fF, fF, fF, fF, tT, fF, fF] rfl rfl (one_of HT_.out kf) (by decide) (fun K hK => ?_)
    refine goes_ Tryz.func9 kf rfl #[.agg #[.int .i64 a1, .slice A1_1 l1_1.length c1_1, .slice A1_2 l1_2.length c1_2], .bool true] (by rfl) rfl rfl sm ?_
    (with_reducible refine (laws_toBox.calls kb1 a1 _ _ l1_1 _ _ l1_2 true a1 l1_1 l1_2 _ ?side1 ?side2 ?side3 ?side4 HBA1.out).mono ?_)
    (case side1 => repeat (first | exact HR1_1.out | exact (Kd.C_below HR1_1.out bz) | (with_reducible refine Kd.C_alloc ?_ _) | (with_reducible refine Kd.C_drewN ?_ _) | (with_reducible refine Kd.C_drew ?_)))
    (case side2 => exact HC1_1.out)
    (case side3 => repeat (first | exact HR1_2.out | exact (Kd.C_below HR1_2.out bz) | (with_reducible refine Kd.C_alloc ?_ _) | (with_reducible refine Kd.C_drewN ?_ _) | (with_reducible refine Kd.C_drew ?_)))
    (case side4 => exact HC1_2.out)
    rintro e w92_ ⟨v92_0_, v92_1_, rfl, ho0, ho1, hb⟩
    refine ⟨_, rfl, ?_⟩
    replace ho0 := Kd.R_mono ho0 (fun _ _ => True.intro)
    replace ho1 := Kd.R_mono ho1 (fun _ _ => True.intro)
    obtain ⟨a92_1_, b92_1_, z1_, z2_, zo0_, zo1_, z4_⟩ := made2 (by exact Z.out) bz hb ho0 ho1
    have nO42_0_ := Aside0.mk (Kd.R_below (kr O42_0) hb)
    have nO44_0_ := Aside0.mk (Kd.R_below (kr O44_0) hb)
    have nO44_1_ := Aside0.mk (Kd.R_below (kr O44_1) hb)
    have nO58_0_ := Aside0.mk (Kd.R_below (kr O58_0) hb)
    have nO63_0_ := Aside0.mk (Kd.R_below (kr O63_0) hb)
    have nO63_1_ := Aside0.mk (Kd.R_below (kr O63_1) hb)
    have nO78_0_ := Aside0.mk (Kd.R_below (kr O78_0) hb)
    have nBK1_ := bb BK1 hb
    have nBK12_ := bb BK12 hb
    have nBK46_ := bb BK46 hb
    have nBK52_ := bb BK52 hb
    have nBK90_ := bb BK90 hb
    clear O42_0 O44_0 O44_1 O58_0 O63_0 O63_1 O78_0 BK1 BK12 BK46 BK52 BK90 HB Z
    have O42_0 := nO42_0_
    have O44_0 := nO44_0_
    have O44_1 := nO44_1_
    have O58_0 := nO58_0_
    have O63_0 := nO63_0_
    have O63_1 := nO63_1_
    have O78_0 := nO78_0_
    have BK1 := nBK1_
    have BK12 := nBK12_
    have BK46 := nBK46_
    have BK52 := nBK52_
    have BK90 := nBK90_
    clear nO42_0_ nO44_0_ nO44_1_ nO58_0_ nO63_0_ nO63_1_ nO78_0_ nBK1_ nBK12_ nBK46_ nBK52_ nBK90_
    have O92_0 := Aside0.mk zo0_
    have O92_1 := Aside0.mk zo1_
    have Q92_1 := Aside0.mk z1_
    have HB := Aside0.mk z4_
    have Z := Aside0.mk z2_
    clear z1_ z2_ z4_ hb ho0 zo0_ ho1 zo1_
    obtain ⟨A92_0_, c92_0_, e92_0_⟩ := Kd.R_slice O92_0.out; subst e92_0_
    obtain ⟨A92_1_, c92_1_, e92_1_⟩ := Kd.R_slice O92_1.out; subst e92_1_
    (try clear hcz91_BK1_0 hfz91_BK1_0 hcz91_BK1_1 hfz91_BK1_1 hcz91_BK1_2 hfz91_BK1_2 hcz91_BK12_0 hfz91_BK12_0 hcz91_BK12_1 hfz91_BK12_1 hcz91_BK12_2 hfz91_BK12_2 hcz91_BK12_3 hfz91_BK12_3 hcz91_BK46_0 hfz91_BK46_0 hcz91_BK46_1 hfz91_BK46_1 hcz91_BK46_2 hfz91_BK46_2 hcz91_BK52_0 hfz91_BK52_0 hcz91_BK52_1 hfz91_BK52_1 hcz91_BK52_2 hfz91_BK52_2 hcz91_BK52_3 hfz91_BK52_3 hcz91_BK90_0 hfz91_BK90_0 hcz91_BK90_1 hfz91_BK90_1 hcz91_BK90_2 hfz91_BK90_2 hcz91_BK90_3 hfz91_BK90_3)
    have hcz93_BK1_0 : w92_.cell? ⟨gb1_, 0, none⟩ = some (.int .i64 a1) := (blk_cell BK1.out 0).trans rfl
    have hfz93_BK1_0 := blk_frozen BK1.out 0
    have hcz93_BK1_1 : w92_.cell? ⟨gb1_, 1, none⟩ = some (.slice A1_1 l1_1.length c1_1) := (blk_cell BK1.out 1).trans rfl
    have hfz93_BK1_1 := blk_frozen BK1.out 1
    have hcz93_BK1_2 : w92_.cell? ⟨gb1_, 2, none⟩ = some (.slice A1_2 l1_2.length c1_2) := (blk_cell BK1.out 2).trans rfl
    have hfz93_BK1_2 := blk_frozen BK1.out 2
    have hcz93_BK12_0 : w92_.cell? ⟨gb12_, 0, none⟩ = some (.int .i64 r1_0) := (blk_cell BK12.out 0).trans rfl
    have hfz93_BK12_0 := blk_frozen BK12.out 0
    have hcz93_BK12_1 : w92_.cell? ⟨gb12_, 1, none⟩ = some (.int .i64 r1_1) := (blk_cell BK12.out 1).trans rfl
    have hfz93_BK12_1 := blk_frozen BK12.out 1
    have hcz93_BK12_2 : w92_.cell? ⟨gb12_, 2, none⟩ = some (.int .i64 r1_2) := (blk_cell BK12.out 2).trans rfl
    have hfz93_BK12_2 := blk_frozen BK12.out 2
    have hcz93_BK12_3 : w92_.cell? ⟨gb12_, 3, none⟩ = some (.int .i64 r1_3) := (blk_cell BK12.out 3).trans rfl
    have hfz93_BK12_3 := blk_frozen BK12.out 3
    have hcz93_BK46_0 : w92_.cell? ⟨gb46_, 0, none⟩ = some (.int .i64 a1) := (blk_cell BK46.out 0).trans rfl
    have hfz93_BK46_0 := blk_frozen BK46.out 0
    have hcz93_BK46_1 : w92_.cell? ⟨gb46_, 1, none⟩ = some (.slice (some ⟨g44_0_, 0, none⟩) l1_1.length (pad l1_1).length) := (blk_cell BK46.out 1).trans rfl
    have hfz93_BK46_1 := blk_frozen BK46.out 1
    have hcz93_BK46_2 : w92_.cell? ⟨gb46_, 2, none⟩ = some (.slice (some ⟨g44_1_, 0, none⟩) l1_2.length (pad l1_2).length) := (blk_cell BK46.out 2).trans rfl
    have hfz93_BK46_2 := blk_frozen BK46.out 2
    have hcz93_BK52_0 : w92_.cell? ⟨gb52_, 0, none⟩ = some (.int .i64 r1_0) := (blk_cell BK52.out 0).trans rfl
    have hfz93_BK52_0 := blk_frozen BK52.out 0
    have hcz93_BK52_1 : w92_.cell? ⟨gb52_, 1, none⟩ = some (.int .i64 r1_1) := (blk_cell BK52.out 1).trans rfl
    have hfz93_BK52_1 := blk_frozen BK52.out 1
    have hcz93_BK52_2 : w92_.cell? ⟨gb52_, 2, none⟩ = some (.int .i64 r1_2) := (blk_cell BK52.out 2).trans rfl
    have hfz93_BK52_2 := blk_frozen BK52.out 2
    have hcz93_BK52_3 : w92_.cell? ⟨gb52_, 3, none⟩ = some (.int .i64 r1_3) := (blk_cell BK52.out 3).trans rfl
    have hfz93_BK52_3 := blk_frozen BK52.out 3
    have hcz93_BK90_0 : w92_.cell? ⟨gb90_, 0, none⟩ = some (.int .i64 0) := (blk_cell BK90.out 0).trans rfl
    have hfz93_BK90_0 := blk_frozen BK90.out 0
    have hcz93_BK90_1 : w92_.cell? ⟨gb90_, 1, none⟩ = some (.int .i64 0) := (blk_cell BK90.out 1).trans rfl
    have hfz93_BK90_1 := blk_frozen BK90.out 1
    have hcz93_BK90_2 : w92_.cell? ⟨gb90_, 2, none⟩ = some (.int .i64 0) := (blk_cell BK90.out 2).trans rfl
    have hfz93_BK90_2 := blk_frozen BK90.out 2
    have hcz93_BK90_3 : w92_.cell? ⟨gb90_, 3, none⟩ = some (.int .i64 0) := (blk_cell BK90.out 3).trans rfl
    have hfz93_BK90_3 := blk_frozen BK90.out 3
    refine hK.out _ _ ⟨((blk_cell BK1.out 0).trans rfl), ((blk_cell BK1.out 1).trans rfl), ((blk_cell BK1.out 2).trans rfl), ((blk_cell BK12.out 0).trans rfl), ((blk_cell BK12.out 1).trans rfl), ((blk_cell BK12.out 2).trans rfl), ((blk_cell BK12.out 3).trans rfl), ((blk_cell BK46.out 0).trans rfl), ((blk_cell BK46.out 1).trans rfl), ((blk_cell BK46.out 2).trans rfl), ((blk_cell BK52.out 0).trans rfl), ((blk_cell BK52.out 1).trans rfl), ((blk_cell BK52.out 2).trans rfl), ((blk_cell BK52.out 3).trans rfl)⟩ (fun hHeld => ?_)
    clear hK K
    refine norm_ (a' := ?_) ?_ ?_
    rotate_left
    ·show Act.put _ (some 65) _ = _
     simp only [Act.put, List.setIfInBounds_toArray, List.set_cons_zero, List.set_cons_succ, i64_w, i32_w]
     rfl
    refine one_ (i := 4) (N := some 66) #[tT, tT, tT, tT, tT, fF, fF, fF, tT, fF, fF] rfl rfl (one_of HT_.out kf) (by decide) (fun K hK => ?_)
    refine goes_ Tryz.func10 kf rfl #[.slice A78_ q0.length c78_, .agg #[.int .i64 a1, .slice A92_0_ l1_1.length c92_0_, .slice A92_1_ l1_2.length c92_1_]] (by rfl) rfl rfl sm ?_
    (with_reducible refine (impl_ValueOver.calls ki _ _ q0 a1 _ _ l1_1 _ _ l1_2 r1_0 r1_1 r1_2 r1_3 r2 _ ?side1 ?side2 ?side3 ?side4 ?side5 ?side6 HI.out).mono ?_)
    (case side1 => exact cr O78_0)
    (case side2 => exact (Kd.R_reads' O78_0.out).2.1)
    (case side3 => exact cr O92_0)
    (case side4 => exact (Kd.R_reads' O92_0.out).2.1)
    (case side5 => exact cr O92_1)
    (case side6 => exact (Kd.R_reads' O92_1.out).2.1)
    rintro e w94_ ⟨rfl, hb⟩
    refine ⟨_, rfl, ?_⟩
    obtain ⟨z2_, z4_⟩ := still (by exact Z.out) bz hb
    have nO42_0_ := Aside0.mk (Kd.R_below (kr O42_0) hb)
    have nO44_0_ := Aside0.mk (Kd.R_below (kr O44_0) hb)
    have nO44_1_ := Aside0.mk (Kd.R_below (kr O44_1) hb)
    have nO58_0_ := Aside0.mk (Kd.R_below (kr O58_0) hb)
    have nO63_0_ := Aside0.mk (Kd.R_below (kr O63_0) hb)
    have nO63_1_ := Aside0.mk (Kd.R_below (kr O63_1) hb)
    have nO78_0_ := Aside0.mk (Kd.R_below (kr O78_0) hb)
    have nO92_0_ := Aside0.mk (Kd.R_below (kr O92_0) hb)
    have nO92_1_ := Aside0.mk (Kd.R_below (kr O92_1) hb)
    have nBK1_ := bb BK1 hb
    have nBK12_ := bb BK12 hb
    have nBK46_ := bb BK46 hb
    have nBK52_ := bb BK52 hb
    have nBK90_ := bb BK90 hb
    clear O42_0 O44_0 O44_1 O58_0 O63_0 O63_1 O78_0 O92_0 O92_1 BK1 BK12 BK46 BK52 BK90 HB Z
    have O42_0 := nO42_0_
    have O44_0 := nO44_0_
    have O44_1 := nO44_1_
    have O58_0 := nO58_0_
    have O63_0 := nO63_0_
    have O63_1 := nO63_1_
    have O78_0 := nO78_0_
    have O92_0 := nO92_0_
    have O92_1 := nO92_1_
    have BK1 := nBK1_
    have BK12 := nBK12_
    have BK46 := nBK46_
    have BK52 := nBK52_
    have BK90 := nBK90_
    clear nO42_0_ nO44_0_ nO44_1_ nO58_0_ nO63_0_ nO63_1_ nO78_0_ nO92_0_ nO92_1_ nBK1_ nBK12_ nBK46_ nBK52_ nBK90_
    have HB := Aside0.mk z4_
    have Z := Aside0.mk z2_
    clear z2_ z4_ hb
    (try clear hcz93_BK1_0 hfz93_BK1_0 hcz93_BK1_1 hfz93_BK1_1 hcz93_BK1_2 hfz93_BK1_2 hcz93_BK12_0 hfz93_BK12_0 hcz93_BK12_1 hfz93_BK12_1 hcz93_BK12_2 hfz93_BK12_2 hcz93_BK12_3 hfz93_BK12_3 hcz93_BK46_0 hfz93_BK46_0 hcz93_BK46_1 hfz93_BK46_1 hcz93_BK46_2 hfz93_BK46_2 hcz93_BK52_0 hfz93_BK52_0 hcz93_BK52_1 hfz93_BK52_1 hcz93_BK52_2 hfz93_BK52_2 hcz93_BK52_3 hfz93_BK52_3 hcz93_BK90_0 hfz93_BK90_0 hcz93_BK90_1 hfz93_BK90_1 hcz93_BK90_2 hfz93_BK90_2 hcz93_BK90_3 hfz93_BK90_3)
    have hcz95_BK1_0 : w94_.cell? ⟨gb1_, 0, none⟩ = some (.int .i64 a1) := (blk_cell BK1.out 0).trans rfl
    have hfz95_BK1_0 := blk_frozen BK1.out 0
    have hcz95_BK1_1 : w94_.cell? ⟨gb1_, 1, none⟩ = some (.slice A1_1 l1_1.length c1_1) := (blk_cell BK1.out 1).trans rfl
    have hfz95_BK1_1 := blk_frozen BK1.out 1
    have hcz95_BK1_2 : w94_.cell? ⟨gb1_, 2, none⟩ = some (.slice A1_2 l1_2.length c1_2) := (blk_cell BK1.out 2).trans rfl
    have hfz95_BK1_2 := blk_frozen BK1.out 2
    have hcz95_BK12_0 : w94_.cell? ⟨gb12_, 0, none⟩ = some (.int .i64 r1_0) := (blk_cell BK12.out 0).trans rfl
    have hfz95_BK12_0 := blk_frozen BK12.out 0
    have hcz95_BK12_1 : w94_.cell? ⟨gb12_, 1, none⟩ = some (.int .i64 r1_1) := (blk_cell BK12.out 1).trans rfl
    have hfz95_BK12_1 := blk_frozen BK12.out 1
    have hcz95_BK12_2 : w94_.cell? ⟨gb12_, 2, none⟩ = some (.int .i64 r1_2) := (blk_cell BK12.out 2).trans rfl
    have hfz95_BK12_2 := blk_frozen BK12.out 2
    have hcz95_BK12_3 : w94_.cell? ⟨gb12_, 3, none⟩ = some (.int .i64 r1_3) := (blk_cell BK12.out 3).trans rfl
    have hfz95_BK12_3 := blk_frozen BK12.out 3
    have hcz95_BK46_0 : w94_.cell? ⟨gb46_, 0, none⟩ = some (.int .i64 a1) := (blk_cell BK46.out 0).trans rfl
    have hfz95_BK46_0 := blk_frozen BK46.out 0
    have hcz95_BK46_1 : w94_.cell? ⟨gb46_, 1, none⟩ = some (.slice (some ⟨g44_0_, 0, none⟩) l1_1.length (pad l1_1).length) := (blk_cell BK46.out 1).trans rfl
    have hfz95_BK46_1 := blk_frozen BK46.out 1
    have hcz95_BK46_2 : w94_.cell? ⟨gb46_, 2, none⟩ = some (.slice (some ⟨g44_1_, 0, none⟩) l1_2.length (pad l1_2).length) := (blk_cell BK46.out 2).trans rfl
    have hfz95_BK46_2 := blk_frozen BK46.out 2
    have hcz95_BK52_0 : w94_.cell? ⟨gb52_, 0, none⟩ = some (.int .i64 r1_0) := (blk_cell BK52.out 0).trans rfl
    have hfz95_BK52_0 := blk_frozen BK52.out 0
    have hcz95_BK52_1 : w94_.cell? ⟨gb52_, 1, none⟩ = some (.int .i64 r1_1) := (blk_cell BK52.out 1).trans rfl
    have hfz95_BK52_1 := blk_frozen BK52.out 1
    have hcz95_BK52_2 : w94_.cell? ⟨gb52_, 2, none⟩ = some (.int .i64 r1_2) := (blk_cell BK52.out 2).trans rfl
    have hfz95_BK52_2 := blk_frozen BK52.out 2
    have hcz95_BK52_3 : w94_.cell? ⟨gb52_, 3, none⟩ = some (.int .i64 r1_3) := (blk_cell BK52.out 3).trans rfl
    have hfz95_BK52_3 := blk_frozen BK52.out 3
    have hcz95_BK90_0 : w94_.cell? ⟨gb90_, 0, none⟩ = some (.int .i64 0) := (blk_cell BK90.out 0).trans rfl
    have hfz95_BK90_0 := blk_frozen BK90.out 0
    have hcz95_BK90_1 : w94_.cell? ⟨gb90_, 1, none⟩ = some (.int .i64 0) := (blk_cell BK90.out 1).trans rfl
    have hfz95_BK90_1 := blk_frozen BK90.out 1
    have hcz95_BK90_2 : w94_.cell? ⟨gb90_, 2, none⟩ = some (.int .i64 0) := (blk_cell BK90.out 2).trans rfl
    have hfz95_BK90_2 := blk_frozen BK90.out 2
    have hcz95_BK90_3 : w94_.cell? ⟨gb90_, 3, none⟩ = some (.int .i64 0) := (blk_cell BK90.out 3).trans rfl
    have hfz95_BK90_3 := blk_frozen BK90.out 3
    refine hK.out _ _ ⟨((blk_cell BK1.out 0).trans rfl), ((blk_cell BK1.out 1).trans rfl), ((blk_cell BK1.out 2).trans rfl), ((blk_cell BK12.out 0).trans rfl), ((blk_cell BK12.out 1).trans rfl), ((blk_cell BK12.out 2).trans rfl), ((blk_cell BK12.out 3).trans rfl), ((blk_cell BK46.out 0).trans rfl), ((blk_cell BK46.out 1).trans rfl), ((blk_cell BK46.out 2).trans rfl), ((blk_cell BK52.out 0).trans rfl), ((blk_cell BK52.out 1).trans rfl), ((blk_cell BK52.out 2).trans rfl), ((blk_cell BK52.out 3).trans rfl)⟩ (fun hHeld => ?_)
    clear hK K
    refine norm_ (a' := ?_) ?_ ?_
    rotate_left
    ·show Act.put _ (some 66) _ = _
     simp only [Act.put, List.setIfInBounds_toArray, List.set_cons_zero, List.set_cons_succ, i64_w, i32_w]
     rfl
    refine pq (i := 5) (N := some 61) #[tT, tT, tT, tT, tT, tT, fF, fF, tT, fF, fF] rfl rfl HT_.out ?_
    refine pq (i := 6) (N := some 67) #[tT, tT, tT, tT, tT, tT, tT, fF, tT, fF, fF] rfl rfl HT_.out ?_
    refine pq (i := 7) (N := some 68) #[tT, tT, tT, tT, tT, tT, tT, tT, tT, fF, fF] rfl rfl HT_.out ?_
    exact norm_ (by simp only [putAll, Act.put, List.setIfInBounds_toArray, List.set_cons_zero, List.set_cons_succ]) (hCont ((.slice A78_ q0.length c78_ : Value), (.agg #[.int .i64 a1, .slice A92_0_ l1_1.length c92_0_, .slice A92_1_ l1_2.length c92_1_] : Value), (gb90_ : Nat)) _ ⟨((blk_cell BK1.out 0).trans rfl), ((blk_cell BK1.out 1).trans rfl), ((blk_cell BK1.out 2).trans rfl), ((blk_cell BK12.out 0).trans rfl), ((blk_cell BK12.out 1).trans rfl), ((blk_cell BK12.out 2).trans rfl), ((blk_cell BK12.out 3).trans rfl), ((blk_cell BK46.out 0).trans rfl), ((blk_cell BK46.out 1).trans rfl), ((blk_cell BK46.out 2).trans rfl), ((blk_cell BK52.out 0).trans rfl), ((blk_cell BK52.out 1).trans rfl), ((blk_cell BK52.out 2).trans rfl), ((blk_cell BK52.out 3).trans rfl), O42_0.out, O44_0.out, O44_1.out, O58_0.out, O63_0.out, O63_1.out, BK1.out, BK12.out, BK46.out, BK52.out, BK90.out, (show b63_1_ ≤ gb90_ from by have := GB90.out; have := GB1.out; have := GB12.out; have := Q42_0.out; have := Q44_1.out; have := GB46.out; have := GB52.out; have := Q58_0.out; have := Q63_1.out; have := Q78_0.out; have := GB90.out; have := Q92_1.out; omega), GE90.out, NBBK1_90.out, NBBK12_90.out, NBBK46_90.out, NBBK52_90.out, HB.out, (blk_lt BK90.out)⟩)
  ·skip
   refine box_draw (N := 12) (cs := #[.int .i64 0, .int .i64 0, .int .i64 0, .int .i64 0]) (t := 31) (by rfl) rfl ?hr ?_
   (case hr => first | (go_simp; done) | (go_simp; rfl))
   intro gb96_ hg w96_ hbox hb
   obtain ⟨z2_, z4_⟩ := still (by exact Z.out) bz hb
   have GB96 : Aside0 (b63_1_ ≤ gb96_) := ⟨by rw [hg]; exact Z.out⟩
   have GE96 : Aside0 (w.heap.size ≤ gb96_) := ⟨by rw [hg]; exact (below_size bz)⟩
   have NBBK1_96 : Aside0 (gb1_ ≠ gb96_) := ⟨by rw [hg]; exact Nat.ne_of_lt (blk_lt (w := _) (o := .cells #[.int .i64 a1, .slice A1_1 l1_1.length c1_1, .slice A1_2 l1_2.length c1_2] 25 (0, 0)) (bk BK1))⟩
   have NBBK12_96 : Aside0 (gb12_ ≠ gb96_) := ⟨by rw [hg]; exact Nat.ne_of_lt (blk_lt (w := _) (o := .cells #[.int .i64 r1_0, .int .i64 r1_1, .int .i64 r1_2, .int .i64 r1_3] 31 (0, 0)) (bk BK12))⟩
   have NBBK46_96 : Aside0 (gb46_ ≠ gb96_) := ⟨by rw [hg]; exact Nat.ne_of_lt (blk_lt (w := _) (o := .cells #[.int .i64 a1, .slice (some ⟨g44_0_, 0, none⟩) l1_1.length (pad l1_1).length, .slice (some ⟨g44_1_, 0, none⟩) l1_2.length (pad l1_2).length] 36 (0, 0)) (bk BK46))⟩
   have NBBK52_96 : Aside0 (gb52_ ≠ gb96_) := ⟨by rw [hg]; exact Nat.ne_of_lt (blk_lt (w := _) (o := .cells #[.int .i64 r1_0, .int .i64 r1_1, .int .i64 r1_2, .int .i64 r1_3] 31 (0, 0)) (bk BK52))⟩
   have nO42_0_ := Aside0.mk (Kd.R_below (kr O42_0) hb)
   have nO44_0_ := Aside0.mk (Kd.R_below (kr O44_0) hb)
   have nO44_1_ := Aside0.mk (Kd.R_below (kr O44_1) hb)
   have nO58_0_ := Aside0.mk (Kd.R_below (kr O58_0) hb)
   have nO63_0_ := Aside0.mk (Kd.R_below (kr O63_0) hb)
   have nO63_1_ := Aside0.mk (Kd.R_below (kr O63_1) hb)
   have nBK1_ := bb BK1 hb
   have nBK12_ := bb BK12 hb
   have nBK46_ := bb BK46 hb
   have nBK52_ := bb BK52 hb
   have BK96 := Aside0.mk hbox
   clear O42_0 O44_0 O44_1 O58_0 O63_0 O63_1 BK1 BK12 BK46 BK52 HB Z
   have O42_0 := nO42_0_
   have O44_0 := nO44_0_
   have O44_1 := nO44_1_
   have O58_0 := nO58_0_
   have O63_0 := nO63_0_
   have O63_1 := nO63_1_
   have BK1 := nBK1_
   have BK12 := nBK12_
   have BK46 := nBK46_
   have BK52 := nBK52_
   clear nO42_0_ nO44_0_ nO44_1_ nO58_0_ nO63_0_ nO63_1_ nBK1_ nBK12_ nBK46_ nBK52_
   have zb_ : gb96_ + 1 ≤ w96_.heap.size := blk_lt BK96.out
   have HB := Aside0.mk z4_
   have Z := Aside0.mk zb_
   clear z2_ z4_ zb_ hb hg hbox
   (try clear hcz66_BK1_0 hfz66_BK1_0 hcz66_BK1_1 hfz66_BK1_1 hcz66_BK1_2 hfz66_BK1_2 hcz66_BK12_0 hfz66_BK12_0 hcz66_BK12_1 hfz66_BK12_1 hcz66_BK12_2 hfz66_BK12_2 hcz66_BK12_3 hfz66_BK12_3 hcz66_BK46_0 hfz66_BK46_0 hcz66_BK46_1 hfz66_BK46_1 hcz66_BK46_2 hfz66_BK46_2 hcz66_BK52_0 hfz66_BK52_0 hcz66_BK52_1 hfz66_BK52_1 hcz66_BK52_2 hfz66_BK52_2 hcz66_BK52_3 hfz66_BK52_3)
   have hcz97_BK1_0 : w96_.cell? ⟨gb1_, 0, none⟩ = some (.int .i64 a1) := (blk_cell BK1.out 0).trans rfl
   have hfz97_BK1_0 := blk_frozen BK1.out 0
   have hcz97_BK1_1 : w96_.cell? ⟨gb1_, 1, none⟩ = some (.slice A1_1 l1_1.length c1_1) := (blk_cell BK1.out 1).trans rfl
   have hfz97_BK1_1 := blk_frozen BK1.out 1
   have hcz97_BK1_2 : w96_.cell? ⟨gb1_, 2, none⟩ = some (.slice A1_2 l1_2.length c1_2) := (blk_cell BK1.out 2).trans rfl
   have hfz97_BK1_2 := blk_frozen BK1.out 2
   have hcz97_BK12_0 : w96_.cell? ⟨gb12_, 0, none⟩ = some (.int .i64 r1_0) := (blk_cell BK12.out 0).trans rfl
   have hfz97_BK12_0 := blk_frozen BK12.out 0
   have hcz97_BK12_1 : w96_.cell? ⟨gb12_, 1, none⟩ = some (.int .i64 r1_1) := (blk_cell BK12.out 1).trans rfl
   have hfz97_BK12_1 := blk_frozen BK12.out 1
   have hcz97_BK12_2 : w96_.cell? ⟨gb12_, 2, none⟩ = some (.int .i64 r1_2) := (blk_cell BK12.out 2).trans rfl
   have hfz97_BK12_2 := blk_frozen BK12.out 2
   have hcz97_BK12_3 : w96_.cell? ⟨gb12_, 3, none⟩ = some (.int .i64 r1_3) := (blk_cell BK12.out 3).trans rfl
   have hfz97_BK12_3 := blk_frozen BK12.out 3
   have hcz97_BK46_0 : w96_.cell? ⟨gb46_, 0, none⟩ = some (.int .i64 a1) := (blk_cell BK46.out 0).trans rfl
   have hfz97_BK46_0 := blk_frozen BK46.out 0
   have hcz97_BK46_1 : w96_.cell? ⟨gb46_, 1, none⟩ = some (.slice (some ⟨g44_0_, 0, none⟩) l1_1.length (pad l1_1).length) := (blk_cell BK46.out 1).trans rfl
   have hfz97_BK46_1 := blk_frozen BK46.out 1
   have hcz97_BK46_2 : w96_.cell? ⟨gb46_, 2, none⟩ = some (.slice (some ⟨g44_1_, 0, none⟩) l1_2.length (pad l1_2).length) := (blk_cell BK46.out 2).trans rfl
   have hfz97_BK46_2 := blk_frozen BK46.out 2
   have hcz97_BK52_0 : w96_.cell? ⟨gb52_, 0, none⟩ = some (.int .i64 r1_0) := (blk_cell BK52.out 0).trans rfl
   have hfz97_BK52_0 := blk_frozen BK52.out 0
   have hcz97_BK52_1 : w96_.cell? ⟨gb52_, 1, none⟩ = some (.int .i64 r1_1) := (blk_cell BK52.out 1).trans rfl
   have hfz97_BK52_1 := blk_frozen BK52.out 1
   have hcz97_BK52_2 : w96_.cell? ⟨gb52_, 2, none⟩ = some (.int .i64 r1_2) := (blk_cell BK52.out 2).trans rfl
   have hfz97_BK52_2 := blk_frozen BK52.out 2
   have hcz97_BK52_3 : w96_.cell? ⟨gb52_, 3, none⟩ = some (.int .i64 r1_3) := (blk_cell BK52.out 3).trans rfl
   have hfz97_BK52_3 := blk_frozen BK52.out 3
   have hcz97_BK96_0 : w96_.cell? ⟨gb96_, 0, none⟩ = some (.int .i64 0) := (blk_cell BK96.out 0).trans rfl
   have hfz97_BK96_0 := blk_frozen BK96.out 0
   have hcz97_BK96_1 : w96_.cell? ⟨gb96_, 1, none⟩ = some (.int .i64 0) := (blk_cell BK96.out 1).trans rfl
   have hfz97_BK96_1 := blk_frozen BK96.out 1
   have hcz97_BK96_2 : w96_.cell? ⟨gb96_, 2, none⟩ = some (.int .i64 0) := (blk_cell BK96.out 2).trans rfl
   have hfz97_BK96_2 := blk_frozen BK96.out 2
   have hcz97_BK96_3 : w96_.cell? ⟨gb96_, 3, none⟩ = some (.int .i64 0) := (blk_cell BK96.out 3).trans rfl
   have hfz97_BK96_3 := blk_frozen BK96.out 3
   refine hK.out _ _ ⟨((blk_cell BK1.out 0).trans rfl), ((blk_cell BK1.out 1).trans rfl), ((blk_cell BK1.out 2).trans rfl), ((blk_cell BK12.out 0).trans rfl), ((blk_cell BK12.out 1).trans rfl), ((blk_cell BK12.out 2).trans rfl), ((blk_cell BK12.out 3).trans rfl), ((blk_cell BK46.out 0).trans rfl), ((blk_cell BK46.out 1).trans rfl), ((blk_cell BK46.out 2).trans rfl), ((blk_cell BK52.out 0).trans rfl), ((blk_cell BK52.out 1).trans rfl), ((blk_cell BK52.out 2).trans rfl), ((blk_cell BK52.out 3).trans rfl)⟩ (fun hHeld => ?_)
   clear hK K
   refine norm_ (a' := ?_) ?_ ?_
   rotate_left
   ·show Act.put _ (some 12) _ = _
    simp only [Act.put, List.setIfInBounds_toArray, List.set_cons_zero, List.set_cons_succ, i64_w, i32_w]
    rfl
   refine one_ (i := 1) (N := some 63) #[tT, tT, tT, fF, fF, fF, fF, fF, tT, fF, fF] rfl rfl (one_of HT_.out kf) (by decide) (fun K hK => ?_)
   refine goes_ Tryz.func8 kf rfl #[.slice A0 l0.length c0, .bool true] (by rfl) rfl rfl sm ?_
   (with_reducible refine (laws_toTermS.calls kb0 _ _ l0 true q0 _ ?side1 ?side2 HBA0.out).mono ?_)
   (case side1 => repeat (first | exact HR0.out | exact (Kd.C_below HR0.out bz) | (with_reducible refine Kd.C_alloc ?_ _) | (with_reducible refine Kd.C_drewN ?_ _) | (with_reducible refine Kd.C_drew ?_)))
   (case side2 => exact HC0.out)
   rintro e w98_ ⟨v98_, rfl, ho0, hb⟩
   refine ⟨_, rfl, ?_⟩
   obtain ⟨a98_0_, b98_0_, z1_, z2_, zo0_, z4_⟩ := made (by exact Z.out) bz hb ho0
   have nO42_0_ := Aside0.mk (Kd.R_below (kr O42_0) hb)
   have nO44_0_ := Aside0.mk (Kd.R_below (kr O44_0) hb)
   have nO44_1_ := Aside0.mk (Kd.R_below (kr O44_1) hb)
   have nO58_0_ := Aside0.mk (Kd.R_below (kr O58_0) hb)
   have nO63_0_ := Aside0.mk (Kd.R_below (kr O63_0) hb)
   have nO63_1_ := Aside0.mk (Kd.R_below (kr O63_1) hb)
   have nBK1_ := bb BK1 hb
   have nBK12_ := bb BK12 hb
   have nBK46_ := bb BK46 hb
   have nBK52_ := bb BK52 hb
   have nBK96_ := bb BK96 hb
   clear O42_0 O44_0 O44_1 O58_0 O63_0 O63_1 BK1 BK12 BK46 BK52 BK96 HB Z
   have O42_0 := nO42_0_
   have O44_0 := nO44_0_
   have O44_1 := nO44_1_
   have O58_0 := nO58_0_
   have O63_0 := nO63_0_
   have O63_1 := nO63_1_
   have BK1 := nBK1_
   have BK12 := nBK12_
   have BK46 := nBK46_
   have BK52 := nBK52_
   have BK96 := nBK96_
   clear nO42_0_ nO44_0_ nO44_1_ nO58_0_ nO63_0_ nO63_1_ nBK1_ nBK12_ nBK46_ nBK52_ nBK96_
   have O98_0 := Aside0.mk zo0_
   have Q98_0 := Aside0.mk z1_
   have HB := Aside0.mk z4_
   have Z := Aside0.mk z2_
   clear z1_ z2_ z4_ hb ho0 zo0_
   obtain ⟨A98_, c98_, e98_⟩ := Kd.R_slice O98_0.out; subst e98_
   (try clear hcz97_BK1_0 hfz97_BK1_0 hcz97_BK1_1 hfz97_BK1_1 hcz97_BK1_2 hfz97_BK1_2 hcz97_BK12_0 hfz97_BK12_0 hcz97_BK12_1 hfz97_BK12_1 hcz97_BK12_2 hfz97_BK12_2 hcz97_BK12_3 hfz97_BK12_3 hcz97_BK46_0 hfz97_BK46_0 hcz97_BK46_1 hfz97_BK46_1 hcz97_BK46_2 hfz97_BK46_2 hcz97_BK52_0 hfz97_BK52_0 hcz97_BK52_1 hfz97_BK52_1 hcz97_BK52_2 hfz97_BK52_2 hcz97_BK52_3 hfz97_BK52_3 hcz97_BK96_0 hfz97_BK96_0 hcz97_BK96_1 hfz97_BK96_1 hcz97_BK96_2 hfz97_BK96_2 hcz97_BK96_3 hfz97_BK96_3)
   have hcz99_BK1_0 : w98_.cell? ⟨gb1_, 0, none⟩ = some (.int .i64 a1) := (blk_cell BK1.out 0).trans rfl
   have hfz99_BK1_0 := blk_frozen BK1.out 0
   have hcz99_BK1_1 : w98_.cell? ⟨gb1_, 1, none⟩ = some (.slice A1_1 l1_1.length c1_1) := (blk_cell BK1.out 1).trans rfl
   have hfz99_BK1_1 := blk_frozen BK1.out 1
   have hcz99_BK1_2 : w98_.cell? ⟨gb1_, 2, none⟩ = some (.slice A1_2 l1_2.length c1_2) := (blk_cell BK1.out 2).trans rfl
   have hfz99_BK1_2 := blk_frozen BK1.out 2
   have hcz99_BK12_0 : w98_.cell? ⟨gb12_, 0, none⟩ = some (.int .i64 r1_0) := (blk_cell BK12.out 0).trans rfl
   have hfz99_BK12_0 := blk_frozen BK12.out 0
   have hcz99_BK12_1 : w98_.cell? ⟨gb12_, 1, none⟩ = some (.int .i64 r1_1) := (blk_cell BK12.out 1).trans rfl
   have hfz99_BK12_1 := blk_frozen BK12.out 1
   have hcz99_BK12_2 : w98_.cell? ⟨gb12_, 2, none⟩ = some (.int .i64 r1_2) := (blk_cell BK12.out 2).trans rfl
   have hfz99_BK12_2 := blk_frozen BK12.out 2
   have hcz99_BK12_3 : w98_.cell? ⟨gb12_, 3, none⟩ = some (.int .i64 r1_3) := (blk_cell BK12.out 3).trans rfl
   have hfz99_BK12_3 := blk_frozen BK12.out 3
   have hcz99_BK46_0 : w98_.cell? ⟨gb46_, 0, none⟩ = some (.int .i64 a1) := (blk_cell BK46.out 0).trans rfl
   have hfz99_BK46_0 := blk_frozen BK46.out 0
   have hcz99_BK46_1 : w98_.cell? ⟨gb46_, 1, none⟩ = some (.slice (some ⟨g44_0_, 0, none⟩) l1_1.length (pad l1_1).length) := (blk_cell BK46.out 1).trans rfl
   have hfz99_BK46_1 := blk_frozen BK46.out 1
   have hcz99_BK46_2 : w98_.cell? ⟨gb46_, 2, none⟩ = some (.slice (some ⟨g44_1_, 0, none⟩) l1_2.length (pad l1_2).length) := (blk_cell BK46.out 2).trans rfl
   have hfz99_BK46_2 := blk_frozen BK46.out 2
   have hcz99_BK52_0 : w98_.cell? ⟨gb52_, 0, none⟩ = some (.int .i64 r1_0) := (blk_cell BK52.out 0).trans rfl
   have hfz99_BK52_0 := blk_frozen BK52.out 0
   have hcz99_BK52_1 : w98_.cell? ⟨gb52_, 1, none⟩ = some (.int .i64 r1_1) := (blk_cell BK52.out 1).trans rfl
   have hfz99_BK52_1 := blk_frozen BK52.out 1
   have hcz99_BK52_2 : w98_.cell? ⟨gb52_, 2, none⟩ = some (.int .i64 r1_2) := (blk_cell BK52.out 2).trans rfl
   have hfz99_BK52_2 := blk_frozen BK52.out 2
   have hcz99_BK52_3 : w98_.cell? ⟨gb52_, 3, none⟩ = some (.int .i64 r1_3) := (blk_cell BK52.out 3).trans rfl
   have hfz99_BK52_3 := blk_frozen BK52.out 3
   have hcz99_BK96_0 : w98_.cell? ⟨gb96_, 0, none⟩ = some (.int .i64 0) := (blk_cell BK96.out 0).trans rfl
   have hfz99_BK96_0 := blk_frozen BK96.out 0
   have hcz99_BK96_1 : w98_.cell? ⟨gb96_, 1, none⟩ = some (.int .i64 0) := (blk_cell BK96.out 1).trans rfl
   have hfz99_BK96_1 := blk_frozen BK96.out 1
   have hcz99_BK96_2 : w98_.cell? ⟨gb96_, 2, none⟩ = some (.int .i64 0) := (blk_cell BK96.out 2).trans rfl
   have hfz99_BK96_2 := blk_frozen BK96.out 2
   have hcz99_BK96_3 : w98_.cell? ⟨gb96_, 3, none⟩ = some (.int .i64 0) := (blk_cell BK96.out 3).trans rfl
   have hfz99_BK96_3 := blk_frozen BK96.out 3
   refine hK.out _ _ ⟨((blk_cell BK1.out 0).trans rfl), ((blk_cell BK1.out 1).trans rfl), ((blk_cell BK1.out 2).trans rfl), ((blk_cell BK12.out 0).trans rfl), ((blk_cell BK12.out 1).trans rfl), ((blk_cell BK12.out 2).trans rfl), ((blk_cell BK12.out 3).trans rfl), ((blk_cell BK46.out 0).trans rfl), ((blk_cell BK46.out 1).trans rfl), ((blk_cell BK46.out 2).trans rfl), ((blk_cell BK52.out 0).trans rfl), ((blk_cell BK52.out 1).trans rfl), ((blk_cell BK52.out 2).trans rfl), ((blk_cell BK52.out 3).trans rfl)⟩ (fun hHeld => ?_)
   clear hK K
   refine norm_ (a' := ?_) ?_ ?_
   rotate_left
   ·show Act.put _ (some 63) _ = _
    simp only [Act.put, List.setIfInBounds_toArray, List.set_cons_zero, List.set_cons_succ, i64_w, i32_w]
    rfl
   refine one_ (i := 3) (N := some 65) #[tT, tT, tT, tT, fF, fF, fF, fF, tT, fF, fF] rfl rfl (one_of HT_.out kf) (by decide) (fun K hK => ?_)
   refine goes_ Tryz.func9 kf rfl #[.agg #[.int .i64 a1, .slice A1_1 l1_1.length c1_1, .slice A1_2 l1_2.length c1_2], .bool true] (by rfl) rfl rfl sm ?_
   (with_reducible refine (laws_toBox.calls kb1 a1 _ _ l1_1 _ _ l1_2 true a1 l1_1 l1_2 _ ?side1 ?side2 ?side3 ?side4 HBA1.out).mono ?_)
   (case side1 => repeat (first | exact HR1_1.out | exact (Kd.C_below HR1_1.out bz) | (with_reducible refine Kd.C_alloc ?_ _) | (with_reducible refine Kd.C_drewN ?_ _) | (with_reducible refine Kd.C_drew ?_)))
   (case side2 => exact HC1_1.out)
   (case side3 => repeat (first | exact HR1_2.out | exact (Kd.C_below HR1_2.out bz) | (with_reducible refine Kd.C_alloc ?_ _) | (with_reducible refine Kd.C_drewN ?_ _) | (with_reducible refine Kd.C_drew ?_)))
   (case side4 => exact HC1_2.out)
   rintro e w100_ ⟨v100_0_, v100_1_, rfl, ho0, ho1, hb⟩
   refine ⟨_, rfl, ?_⟩
   replace ho0 := Kd.R_mono ho0 (fun _ _ => True.intro)
   replace ho1 := Kd.R_mono ho1 (fun _ _ => True.intro)
   obtain ⟨a100_1_, b100_1_, z1_, z2_, zo0_, zo1_, z4_⟩ := made2 (by exact Z.out) bz hb ho0 ho1
   have nO42_0_ := Aside0.mk (Kd.R_below (kr O42_0) hb)
   have nO44_0_ := Aside0.mk (Kd.R_below (kr O44_0) hb)
   have nO44_1_ := Aside0.mk (Kd.R_below (kr O44_1) hb)
   have nO58_0_ := Aside0.mk (Kd.R_below (kr O58_0) hb)
   have nO63_0_ := Aside0.mk (Kd.R_below (kr O63_0) hb)
   have nO63_1_ := Aside0.mk (Kd.R_below (kr O63_1) hb)
   have nO98_0_ := Aside0.mk (Kd.R_below (kr O98_0) hb)
   have nBK1_ := bb BK1 hb
   have nBK12_ := bb BK12 hb
   have nBK46_ := bb BK46 hb
   have nBK52_ := bb BK52 hb
   have nBK96_ := bb BK96 hb
   clear O42_0 O44_0 O44_1 O58_0 O63_0 O63_1 O98_0 BK1 BK12 BK46 BK52 BK96 HB Z
   have O42_0 := nO42_0_
   have O44_0 := nO44_0_
   have O44_1 := nO44_1_
   have O58_0 := nO58_0_
   have O63_0 := nO63_0_
   have O63_1 := nO63_1_
   have O98_0 := nO98_0_
   have BK1 := nBK1_
   have BK12 := nBK12_
   have BK46 := nBK46_
   have BK52 := nBK52_
   have BK96 := nBK96_
   clear nO42_0_ nO44_0_ nO44_1_ nO58_0_ nO63_0_ nO63_1_ nO98_0_ nBK1_ nBK12_ nBK46_ nBK52_ nBK96_
   have O100_0 := Aside0.mk zo0_
   have O100_1 := Aside0.mk zo1_
   have Q100_1 := Aside0.mk z1_
   have HB := Aside0.mk z4_
   have Z := Aside0.mk z2_
   clear z1_ z2_ z4_ hb ho0 zo0_ ho1 zo1_
   obtain ⟨A100_0_, c100_0_, e100_0_⟩ := Kd.R_slice O100_0.out; subst e100_0_
   obtain ⟨A100_1_, c100_1_, e100_1_⟩ := Kd.R_slice O100_1.out; subst e100_1_
   (try clear hcz99_BK1_0 hfz99_BK1_0 hcz99_BK1_1 hfz99_BK1_1 hcz99_BK1_2 hfz99_BK1_2 hcz99_BK12_0 hfz99_BK12_0 hcz99_BK12_1 hfz99_BK12_1 hcz99_BK12_2 hfz99_BK12_2 hcz99_BK12_3 hfz99_BK12_3 hcz99_BK46_0 hfz99_BK46_0 hcz99_BK46_1 hfz99_BK46_1 hcz99_BK46_2 hfz99_BK46_2 hcz99_BK52_0 hfz99_BK52_0 hcz99_BK52_1 hfz99_BK52_1 hcz99_BK52_2 hfz99_BK52_2 hcz99_BK52_3 hfz99_BK52_3 hcz99_BK96_0 hfz99_BK96_0 hcz99_BK96_1 hfz99_BK96_1 hcz99_BK96_2 hfz99_BK96_2 hcz99_BK96_3 hfz99_BK96_3)
   have hcz101_BK1_0 : w100_.cell? ⟨gb1_, 0, none⟩ = some (.int .i64 a1) := (blk_cell BK1.out 0).trans rfl
   have hfz101_BK1_0 := blk_frozen BK1.out 0
   have hcz101_BK1_1 : w100_.cell? ⟨gb1_, 1, none⟩ = some (.slice A1_1 l1_1.length c1_1) := (blk_cell BK1.out 1).trans rfl
   have hfz101_BK1_1 := blk_frozen BK1.out 1
   have hcz101_BK1_2 : w100_.cell? ⟨gb1_, 2, none⟩ = some (.slice A1_2 l1_2.length c1_2) := (blk_cell BK1.out 2).trans rfl
   have hfz101_BK1_2 := blk_frozen BK1.out 2
   have hcz101_BK12_0 : w100_.cell? ⟨gb12_, 0, none⟩ = some (.int .i64 r1_0) := (blk_cell BK12.out 0).trans rfl
   have hfz101_BK12_0 := blk_frozen BK12.out 0
   have hcz101_BK12_1 : w100_.cell? ⟨gb12_, 1, none⟩ = some (.int .i64 r1_1) := (blk_cell BK12.out 1).trans rfl
   have hfz101_BK12_1 := blk_frozen BK12.out 1
   have hcz101_BK12_2 : w100_.cell? ⟨gb12_, 2, none⟩ = some (.int .i64 r1_2) := (blk_cell BK12.out 2).trans rfl
   have hfz101_BK12_2 := blk_frozen BK12.out 2
   have hcz101_BK12_3 : w100_.cell? ⟨gb12_, 3, none⟩ = some (.int .i64 r1_3) := (blk_cell BK12.out 3).trans rfl
   have hfz101_BK12_3 := blk_frozen BK12.out 3
   have hcz101_BK46_0 : w100_.cell? ⟨gb46_, 0, none⟩ = some (.int .i64 a1) := (blk_cell BK46.out 0).trans rfl
   have hfz101_BK46_0 := blk_frozen BK46.out 0
   have hcz101_BK46_1 : w100_.cell? ⟨gb46_, 1, none⟩ = some (.slice (some ⟨g44_0_, 0, none⟩) l1_1.length (pad l1_1).length) := (blk_cell BK46.out 1).trans rfl
   have hfz101_BK46_1 := blk_frozen BK46.out 1
   have hcz101_BK46_2 : w100_.cell? ⟨gb46_, 2, none⟩ = some (.slice (some ⟨g44_1_, 0, none⟩) l1_2.length (pad l1_2).length) := (blk_cell BK46.out 2).trans rfl
   have hfz101_BK46_2 := blk_frozen BK46.out 2
   have hcz101_BK52_0 : w100_.cell? ⟨gb52_, 0, none⟩ = some (.int .i64 r1_0) := (blk_cell BK52.out 0).trans rfl
   have hfz101_BK52_0 := blk_frozen BK52.out 0
   have hcz101_BK52_1 : w100_.cell? ⟨gb52_, 1, none⟩ = some (.int .i64 r1_1) := (blk_cell BK52.out 1).trans rfl
   have hfz101_BK52_1 := blk_frozen BK52.out 1
   have hcz101_BK52_2 : w100_.cell? ⟨gb52_, 2, none⟩ = some (.int .i64 r1_2) := (blk_cell BK52.out 2).trans rfl
   have hfz101_BK52_2 := blk_frozen BK52.out 2
   have hcz101_BK52_3 : w100_.cell? ⟨gb52_, 3, none⟩ = some (.int .i64 r1_3) := (blk_cell BK52.out 3).trans rfl
   have hfz101_BK52_3 := blk_frozen BK52.out 3
   have hcz101_BK96_0 : w100_.cell? ⟨gb96_, 0, none⟩ = some (.int .i64 0) := (blk_cell BK96.out 0).trans rfl
   have hfz101_BK96_0 := blk_frozen BK96.out 0
   have hcz101_BK96_1 : w100_.cell? ⟨gb96_, 1, none⟩ = some (.int .i64 0) := (blk_cell BK96.out 1).trans rfl
   have hfz101_BK96_1 := blk_frozen BK96.out 1
   have hcz101_BK96_2 : w100_.cell? ⟨gb96_, 2, none⟩ = some (.int .i64 0) := (blk_cell BK96.out 2).trans rfl
   have hfz101_BK96_2 := blk_frozen BK96.out 2
   have hcz101_BK96_3 : w100_.cell? ⟨gb96_, 3, none⟩ = some (.int .i64 0) := (blk_cell BK96.out 3).trans rfl
   have hfz101_BK96_3 := blk_frozen BK96.out 3
   refine hK.out _ _ ⟨((blk_cell BK1.out 0).trans rfl), ((blk_cell BK1.out 1).trans rfl), ((blk_cell BK1.out 2).trans rfl), ((blk_cell BK12.out 0).trans rfl), ((blk_cell BK12.out 1).trans rfl), ((blk_cell BK12.out 2).trans rfl), ((blk_cell BK12.out 3).trans rfl), ((blk_cell BK46.out 0).trans rfl), ((blk_cell BK46.out 1).trans rfl), ((blk_cell BK46.out 2).trans rfl), ((blk_cell BK52.out 0).trans rfl), ((blk_cell BK52.out 1).trans rfl), ((blk_cell BK52.out 2).trans rfl), ((blk_cell BK52.out 3).trans rfl)⟩ (fun hHeld => ?_)
   clear hK K
   refine norm_ (a' := ?_) ?_ ?_
   rotate_left
   ·show Act.put _ (some 65) _ = _
    simp only [Act.put, List.setIfInBounds_toArray, List.set_cons_zero, List.set_cons_succ, i64_w, i32_w]
    rfl
   refine one_ (i := 4) (N := some 66) #[tT, tT, tT, tT, tT, fF, fF, fF, tT, fF, fF] rfl rfl (one_of HT_.out kf) (by decide) (fun K hK => ?_)
   refine goes_ Tryz.func10 kf rfl #[.slice A98_ q0.length c98_, .agg #[.int .i64 a1, .slice A100_0_ l1_1.length c100_0_, .slice A100_1_ l1_2.length c100_1_]] (by rfl) rfl rfl sm ?_
   (with_reducible refine (impl_ValueOver.calls ki _ _ q0 a1 _ _ l1_1 _ _ l1_2 r1_0 r1_1 r1_2 r1_3 r2 _ ?side1 ?side2 ?side3 ?side4 ?side5 ?side6 HI.out).mono ?_)
   (case side1 => exact cr O98_0)
   (case side2 => exact (Kd.R_reads' O98_0.out).2.1)
   (case side3 => exact cr O100_0)
   (case side4 => exact (Kd.R_reads' O100_0.out).2.1)
   (case side5 => exact cr O100_1)
   (case side6 => exact (Kd.R_reads' O100_1.out).2.1)
   rintro e w102_ ⟨rfl, hb⟩
   refine ⟨_, rfl, ?_⟩
   obtain ⟨z2_, z4_⟩ := still (by exact Z.out) bz hb
   have nO42_0_ := Aside0.mk (Kd.R_below (kr O42_0) hb)
   have nO44_0_ := Aside0.mk (Kd.R_below (kr O44_0) hb)
   have nO44_1_ := Aside0.mk (Kd.R_below (kr O44_1) hb)
   have nO58_0_ := Aside0.mk (Kd.R_below (kr O58_0) hb)
   have nO63_0_ := Aside0.mk (Kd.R_below (kr O63_0) hb)
   have nO63_1_ := Aside0.mk (Kd.R_below (kr O63_1) hb)
   have nO98_0_ := Aside0.mk (Kd.R_below (kr O98_0) hb)
   have nO100_0_ := Aside0.mk (Kd.R_below (kr O100_0) hb)
   have nO100_1_ := Aside0.mk (Kd.R_below (kr O100_1) hb)
   have nBK1_ := bb BK1 hb
   have nBK12_ := bb BK12 hb
   have nBK46_ := bb BK46 hb
   have nBK52_ := bb BK52 hb
   have nBK96_ := bb BK96 hb
   clear O42_0 O44_0 O44_1 O58_0 O63_0 O63_1 O98_0 O100_0 O100_1 BK1 BK12 BK46 BK52 BK96 HB Z
   have O42_0 := nO42_0_
   have O44_0 := nO44_0_
   have O44_1 := nO44_1_
   have O58_0 := nO58_0_
   have O63_0 := nO63_0_
   have O63_1 := nO63_1_
   have O98_0 := nO98_0_
   have O100_0 := nO100_0_
   have O100_1 := nO100_1_
   have BK1 := nBK1_
   have BK12 := nBK12_
   have BK46 := nBK46_
   have BK52 := nBK52_
   have BK96 := nBK96_
   clear nO42_0_ nO44_0_ nO44_1_ nO58_0_ nO63_0_ nO63_1_ nO98_0_ nO100_0_ nO100_1_ nBK1_ nBK12_ nBK46_ nBK52_ nBK96_
   have HB := Aside0.mk z4_
   have Z := Aside0.mk z2_
   clear z2_ z4_ hb
   (try clear hcz101_BK1_0 hfz101_BK1_0 hcz101_BK1_1 hfz101_BK1_1 hcz101_BK1_2 hfz101_BK1_2 hcz101_BK12_0 hfz101_BK12_0 hcz101_BK12_1 hfz101_BK12_1 hcz101_BK12_2 hfz101_BK12_2 hcz101_BK12_3 hfz101_BK12_3 hcz101_BK46_0 hfz101_BK46_0 hcz101_BK46_1 hfz101_BK46_1 hcz101_BK46_2 hfz101_BK46_2 hcz101_BK52_0 hfz101_BK52_0 hcz101_BK52_1 hfz101_BK52_1 hcz101_BK52_2 hfz101_BK52_2 hcz101_BK52_3 hfz101_BK52_3 hcz101_BK96_0 hfz101_BK96_0 hcz101_BK96_1 hfz101_BK96_1 hcz101_BK96_2 hfz101_BK96_2 hcz101_BK96_3 hfz101_BK96_3)
   have hcz103_BK1_0 : w102_.cell? ⟨gb1_, 0, none⟩ = some (.int .i64 a1) := (blk_cell BK1.out 0).trans rfl
   have hfz103_BK1_0 := blk_frozen BK1.out 0
   have hcz103_BK1_1 : w102_.cell? ⟨gb1_, 1, none⟩ = some (.slice A1_1 l1_1.length c1_1) := (blk_cell BK1.out 1).trans rfl
   have hfz103_BK1_1 := blk_frozen BK1.out 1
   have hcz103_BK1_2 : w102_.cell? ⟨gb1_, 2, none⟩ = some (.slice A1_2 l1_2.length c1_2) := (blk_cell BK1.out 2).trans rfl
   have hfz103_BK1_2 := blk_frozen BK1.out 2
   have hcz103_BK12_0 : w102_.cell? ⟨gb12_, 0, none⟩ = some (.int .i64 r1_0) := (blk_cell BK12.out 0).trans rfl
   have hfz103_BK12_0 := blk_frozen BK12.out 0
   have hcz103_BK12_1 : w102_.cell? ⟨gb12_, 1, none⟩ = some (.int .i64 r1_1) := (blk_cell BK12.out 1).trans rfl
   have hfz103_BK12_1 := blk_frozen BK12.out 1
   have hcz103_BK12_2 : w102_.cell? ⟨gb12_, 2, none⟩ = some (.int .i64 r1_2) := (blk_cell BK12.out 2).trans rfl
   have hfz103_BK12_2 := blk_frozen BK12.out 2
   have hcz103_BK12_3 : w102_.cell? ⟨gb12_, 3, none⟩ = some (.int .i64 r1_3) := (blk_cell BK12.out 3).trans rfl
   have hfz103_BK12_3 := blk_frozen BK12.out 3
   have hcz103_BK46_0 : w102_.cell? ⟨gb46_, 0, none⟩ = some (.int .i64 a1) := (blk_cell BK46.out 0).trans rfl
   have hfz103_BK46_0 := blk_frozen BK46.out 0
   have hcz103_BK46_1 : w102_.cell? ⟨gb46_, 1, none⟩ = some (.slice (some ⟨g44_0_, 0, none⟩) l1_1.length (pad l1_1).length) := (blk_cell BK46.out 1).trans rfl
   have hfz103_BK46_1 := blk_frozen BK46.out 1
   have hcz103_BK46_2 : w102_.cell? ⟨gb46_, 2, none⟩ = some (.slice (some ⟨g44_1_, 0, none⟩) l1_2.length (pad l1_2).length) := (blk_cell BK46.out 2).trans rfl
   have hfz103_BK46_2 := blk_frozen BK46.out 2
   have hcz103_BK52_0 : w102_.cell? ⟨gb52_, 0, none⟩ = some (.int .i64 r1_0) := (blk_cell BK52.out 0).trans rfl
   have hfz103_BK52_0 := blk_frozen BK52.out 0
   have hcz103_BK52_1 : w102_.cell? ⟨gb52_, 1, none⟩ = some (.int .i64 r1_1) := (blk_cell BK52.out 1).trans rfl
   have hfz103_BK52_1 := blk_frozen BK52.out 1
   have hcz103_BK52_2 : w102_.cell? ⟨gb52_, 2, none⟩ = some (.int .i64 r1_2) := (blk_cell BK52.out 2).trans rfl
   have hfz103_BK52_2 := blk_frozen BK52.out 2
   have hcz103_BK52_3 : w102_.cell? ⟨gb52_, 3, none⟩ = some (.int .i64 r1_3) := (blk_cell BK52.out 3).trans rfl
   have hfz103_BK52_3 := blk_frozen BK52.out 3
   have hcz103_BK96_0 : w102_.cell? ⟨gb96_, 0, none⟩ = some (.int .i64 0) := (blk_cell BK96.out 0).trans rfl
   have hfz103_BK96_0 := blk_frozen BK96.out 0
   have hcz103_BK96_1 : w102_.cell? ⟨gb96_, 1, none⟩ = some (.int .i64 0) := (blk_cell BK96.out 1).trans rfl
   have hfz103_BK96_1 := blk_frozen BK96.out 1
   have hcz103_BK96_2 : w102_.cell? ⟨gb96_, 2, none⟩ = some (.int .i64 0) := (blk_cell BK96.out 2).trans rfl
   have hfz103_BK96_2 := blk_frozen BK96.out 2
   have hcz103_BK96_3 : w102_.cell? ⟨gb96_, 3, none⟩ = some (.int .i64 0) := (blk_cell BK96.out 3).trans rfl
   have hfz103_BK96_3 := blk_frozen BK96.out 3
   refine hK.out _ _ ⟨((blk_cell BK1.out 0).trans rfl), ((blk_cell BK1.out 1).trans rfl), ((blk_cell BK1.out 2).trans rfl), ((blk_cell BK12.out 0).trans rfl), ((blk_cell BK12.out 1).trans rfl), ((blk_cell BK12.out 2).trans rfl), ((blk_cell BK12.out 3).trans rfl), ((blk_cell BK46.out 0).trans rfl), ((blk_cell BK46.out 1).trans rfl), ((blk_cell BK46.out 2).trans rfl), ((blk_cell BK52.out 0).trans rfl), ((blk_cell BK52.out 1).trans rfl), ((blk_cell BK52.out 2).trans rfl), ((blk_cell BK52.out 3).trans rfl)⟩ (fun hHeld => ?_)
   clear hK K
   refine norm_ (a' := ?_) ?_ ?_
   rotate_left
   ·show Act.put _ (some 66) _ = _
    simp only [Act.put, List.setIfInBounds_toArray, List.set_cons_zero, List.set_cons_succ, i64_w, i32_w]
    rfl
   refine pq (i := 5) (N := some 61) #[tT, tT, tT, tT, tT, tT, fF, fF, tT, fF, fF] rfl rfl HT_.out ?_
   refine pq (i := 6) (N := some 67) #[tT, tT, tT, tT, tT, tT, tT, fF, tT, fF, fF] rfl rfl HT_.out ?_
   refine pq (i := 7) (N := some 68) #[tT, tT, tT, tT, tT, tT, tT, tT, tT, fF, fF] rfl rfl HT_.out ?_
   exact norm_ (by simp only [putAll, Act.put, List.setIfInBounds_toArray, List.set_cons_zero, List.set_cons_succ]) (hCont ((.slice A98_ q0.length c98_ : Value), (.agg #[.int .i64 a1, .slice A100_0_ l1_1.length c100_0_, .slice A100_1_ l1_2.length c100_1_] : Value), (gb96_ : Nat)) _ ⟨((blk_cell BK1.out 0).trans rfl), ((blk_cell BK1.out 1).trans rfl), ((blk_cell BK1.out 2).trans rfl), ((blk_cell BK12.out 0).trans rfl), ((blk_cell BK12.out 1).trans rfl), ((blk_cell BK12.out 2).trans rfl), ((blk_cell BK12.out 3).trans rfl), ((blk_cell BK46.out 0).trans rfl), ((blk_cell BK46.out 1).trans rfl), ((blk_cell BK46.out 2).trans rfl), ((blk_cell BK52.out 0).trans rfl), ((blk_cell BK52.out 1).trans rfl), ((blk_cell BK52.out 2).trans rfl), ((blk_cell BK52.out 3).trans rfl), O42_0.out, O44_0.out, O44_1.out, O58_0.out, O63_0.out, O63_1.out, BK1.out, BK12.out, BK46.out, BK52.out, BK96.out, (show b63_1_ ≤ gb96_ from by have := GB96.out; have := GB1.out; have := GB12.out; have := Q42_0.out; have := Q44_1.out; have := GB46.out; have := GB52.out; have := Q58_0.out; have := Q63_1.out; have := GB96.out; have := Q98_0.out; have := Q100_1.out; omega), GE96.out, NBBK1_96.out, NBBK12_96.out, NBBK46_96.out, NBBK52_96.out, HB.out, (blk_lt BK96.out)⟩)
 rintro ⟨v74_63_, v74_65_, gb74_⟩ w74_ ⟨f0_, f1_, f2_, f3_, f4_, f5_, f6_, f7_, f8_, f9_, f10_, f11_, f12_, f13_, f14_, f15_, f16_, f17_, f18_, f19_, f20_, f21_, f22_, f23_, f24_, f25_, f26_, f27_, f28_, f29_, f30_, f31_, f32_⟩
 have hHeld : w74_.cell? ⟨gb1_, 0, none⟩ = some (.int .i64 a1) ∧ w74_.cell? ⟨gb1_, 1, none⟩ = some (.slice A1_1 l1_1.length c1_1) ∧ w74_.cell? ⟨gb1_, 2, none⟩ = some (.slice A1_2 l1_2.length c1_2) ∧ w74_.cell? ⟨gb12_, 0, none⟩ = some (.int .i64 r1_0) ∧ w74_.cell? ⟨gb12_, 1, none⟩ = some (.int .i64 r1_1) ∧ w74_.cell? ⟨gb12_, 2, none⟩ = some (.int .i64 r1_2) ∧ w74_.cell? ⟨gb12_, 3, none⟩ = some (.int .i64 r1_3) ∧ w74_.cell? ⟨gb46_, 0, none⟩ = some (.int .i64 a1) ∧ w74_.cell? ⟨gb46_, 1, none⟩ = some (.slice (some ⟨g44_0_, 0, none⟩) l1_1.length (pad l1_1).length) ∧ w74_.cell? ⟨gb46_, 2, none⟩ = some (.slice (some ⟨g44_1_, 0, none⟩) l1_2.length (pad l1_2).length) ∧ w74_.cell? ⟨gb52_, 0, none⟩ = some (.int .i64 r1_0) ∧ w74_.cell? ⟨gb52_, 1, none⟩ = some (.int .i64 r1_1) ∧ w74_.cell? ⟨gb52_, 2, none⟩ = some (.int .i64 r1_2) ∧ w74_.cell? ⟨gb52_, 3, none⟩ = some (.int .i64 r1_3) := ⟨f0_, f1_, f2_, f3_, f4_, f5_, f6_, f7_, f8_, f9_, f10_, f11_, f12_, f13_⟩
 clear O42_0 O44_0 O44_1 O58_0 O63_0 O63_1 BK1 BK12 BK46 BK52 HB Z
 have O42_0 : Aside0 (Kd.R k55 55 w74_ w.heap.size (fun k => a42_0_ ≤ k ∧ k < b42_0_) (.slice A42_ P0.length c42_) P0) := ⟨f14_⟩
 have O44_0 : Aside0 (Kd.R (Kd.int .i64) 3 w74_ w.heap.size (fun k => a44_1_ ≤ k ∧ k < b44_1_) (.slice (some ⟨g44_0_, 0, none⟩) (pad l1_1).length (pad l1_1).length) (pad l1_1)) := ⟨f15_⟩
 have O44_1 : Aside0 (Kd.R (Kd.int .i64) 3 w74_ w.heap.size (fun k => a44_1_ ≤ k ∧ k < b44_1_) (.slice (some ⟨g44_1_, 0, none⟩) (pad l1_2).length (pad l1_2).length) (pad l1_2)) := ⟨f16_⟩
 have O58_0 : Aside0 (Kd.R k55 55 w74_ w.heap.size (fun k => a58_0_ ≤ k ∧ k < b58_0_) (.slice A58_ P0.length c58_) P0) := ⟨f17_⟩
 have O63_0 : Aside0 (Kd.R (Kd.int .i64) 3 w74_ w.heap.size (fun k => a63_1_ ≤ k ∧ k < b63_1_) (.slice (some ⟨g63_0_, 0, none⟩) (pad l1_1).length (pad l1_1).length) (pad l1_1)) := ⟨f18_⟩
 have O63_1 : Aside0 (Kd.R (Kd.int .i64) 3 w74_ w.heap.size (fun k => a63_1_ ≤ k ∧ k < b63_1_) (.slice (some ⟨g63_1_, 0, none⟩) (pad l1_2).length (pad l1_2).length) (pad l1_2)) := ⟨f19_⟩
 have BK1 : Aside0 (w74_.heap[gb1_]? = some (.cells #[.int .i64 a1, .slice A1_1 l1_1.length c1_1, .slice A1_2 l1_2.length c1_2] 25 (0, 0))) := ⟨f20_⟩
 have BK12 : Aside0 (w74_.heap[gb12_]? = some (.cells #[.int .i64 r1_0, .int .i64 r1_1, .int .i64 r1_2, .int .i64 r1_3] 31 (0, 0))) := ⟨f21_⟩
 have BK46 : Aside0 (w74_.heap[gb46_]? = some (.cells #[.int .i64 a1, .slice (some ⟨g44_0_, 0, none⟩) l1_1.length (pad l1_1).length, .slice (some ⟨g44_1_, 0, none⟩) l1_2.length (pad l1_2).length] 36 (0, 0))) := ⟨f22_⟩
 have BK52 : Aside0 (w74_.heap[gb52_]? = some (.cells #[.int .i64 r1_0, .int .i64 r1_1, .int .i64 r1_2, .int .i64 r1_3] 31 (0, 0))) := ⟨f23_⟩
 have BK74 : Aside0 (w74_.heap[gb74_]? = some (.cells #[.int .i64 0, .int .i64 0, .int .i64 0, .int .i64 0] 31 (0, 0))) := ⟨f24_⟩
 have GB74 : Aside0 (b63_1_ ≤ gb74_) := ⟨f25_⟩
 have GE74 : Aside0 (w.heap.size ≤ gb74_) := ⟨f26_⟩
 have NBBK1_74 : Aside0 (gb1_ ≠ gb74_) := ⟨f27_⟩
 have NBBK12_74 : Aside0 (gb12_ ≠ gb74_) := ⟨f28_⟩
 have NBBK46_74 : Aside0 (gb46_ ≠ gb74_) := ⟨f29_⟩
 have NBBK52_74 : Aside0 (gb52_ ≠ gb74_) := ⟨f30_⟩
 have HB : Aside0 (Below w.heap.size w w74_) := ⟨f31_⟩
 have Z : Aside0 (gb74_ + 1 ≤ w74_.heap.size) := ⟨f32_⟩
 clear f0_ f1_ f2_ f3_ f4_ f5_ f6_ f7_ f8_ f9_ f10_ f11_ f12_ f13_ f14_ f15_ f16_ f17_ f18_ f19_ f20_ f21_ f22_ f23_ f24_ f25_ f26_ f27_ f28_ f29_ f30_ f31_ f32_
 (try clear hcz66_BK1_0 hfz66_BK1_0 hcz66_BK1_1 hfz66_BK1_1 hcz66_BK1_2 hfz66_BK1_2 hcz66_BK12_0 hfz66_BK12_0 hcz66_BK12_1 hfz66_BK12_1 hcz66_BK12_2 hfz66_BK12_2 hcz66_BK12_3 hfz66_BK12_3 hcz66_BK46_0 hfz66_BK46_0 hcz66_BK46_1 hfz66_BK46_1 hcz66_BK46_2 hfz66_BK46_2 hcz66_BK52_0 hfz66_BK52_0 hcz66_BK52_1 hfz66_BK52_1 hcz66_BK52_2 hfz66_BK52_2 hcz66_BK52_3 hfz66_BK52_3)
 have hcz75_BK1_0 : w74_.cell? ⟨gb1_, 0, none⟩ = some (.int .i64 a1) := (blk_cell BK1.out 0).trans rfl
 have hfz75_BK1_0 := blk_frozen BK1.out 0
 have hcz75_BK1_1 : w74_.cell? ⟨gb1_, 1, none⟩ = some (.slice A1_1 l1_1.length c1_1) := (blk_cell BK1.out 1).trans rfl
 have hfz75_BK1_1 := blk_frozen BK1.out 1
 have hcz75_BK1_2 : w74_.cell? ⟨gb1_, 2, none⟩ = some (.slice A1_2 l1_2.length c1_2) := (blk_cell BK1.out 2).trans rfl
 have hfz75_BK1_2 := blk_frozen BK1.out 2
 have hcz75_BK12_0 : w74_.cell? ⟨gb12_, 0, none⟩ = some (.int .i64 r1_0) := (blk_cell BK12.out 0).trans rfl
 have hfz75_BK12_0 := blk_frozen BK12.out 0
 have hcz75_BK12_1 : w74_.cell? ⟨gb12_, 1, none⟩ = some (.int .i64 r1_1) := (blk_cell BK12.out 1).trans rfl
 have hfz75_BK12_1 := blk_frozen BK12.out 1
 have hcz75_BK12_2 : w74_.cell? ⟨gb12_, 2, none⟩ = some (.int .i64 r1_2) := (blk_cell BK12.out 2).trans rfl
 have hfz75_BK12_2 := blk_frozen BK12.out 2
 have hcz75_BK12_3 : w74_.cell? ⟨gb12_, 3, none⟩ = some (.int .i64 r1_3) := (blk_cell BK12.out 3).trans rfl
 have hfz75_BK12_3 := blk_frozen BK12.out 3
 have hcz75_BK46_0 : w74_.cell? ⟨gb46_, 0, none⟩ = some (.int .i64 a1) := (blk_cell BK46.out 0).trans rfl
 have hfz75_BK46_0 := blk_frozen BK46.out 0
 have hcz75_BK46_1 : w74_.cell? ⟨gb46_, 1, none⟩ = some (.slice (some ⟨g44_0_, 0, none⟩) l1_1.length (pad l1_1).length) := (blk_cell BK46.out 1).trans rfl
 have hfz75_BK46_1 := blk_frozen BK46.out 1
 have hcz75_BK46_2 : w74_.cell? ⟨gb46_, 2, none⟩ = some (.slice (some ⟨g44_1_, 0, none⟩) l1_2.length (pad l1_2).length) := (blk_cell BK46.out 2).trans rfl
 have hfz75_BK46_2 := blk_frozen BK46.out 2
 have hcz75_BK52_0 : w74_.cell? ⟨gb52_, 0, none⟩ = some (.int .i64 r1_0) := (blk_cell BK52.out 0).trans rfl
 have hfz75_BK52_0 := blk_frozen BK52.out 0
 have hcz75_BK52_1 : w74_.cell? ⟨gb52_, 1, none⟩ = some (.int .i64 r1_1) := (blk_cell BK52.out 1).trans rfl
 have hfz75_BK52_1 := blk_frozen BK52.out 1
 have hcz75_BK52_2 : w74_.cell? ⟨gb52_, 2, none⟩ = some (.int .i64 r1_2) := (blk_cell BK52.out 2).trans rfl
 have hfz75_BK52_2 := blk_frozen BK52.out 2
 have hcz75_BK52_3 : w74_.cell? ⟨gb52_, 3, none⟩ = some (.int .i64 r1_3) := (blk_cell BK52.out 3).trans rfl
 have hfz75_BK52_3 := blk_frozen BK52.out 3
 have hcz75_BK74_0 : w74_.cell? ⟨gb74_, 0, none⟩ = some (.int .i64 0) := (blk_cell BK74.out 0).trans rfl
 have hfz75_BK74_0 := blk_frozen BK74.out 0
 have hcz75_BK74_1 : w74_.cell? ⟨gb74_, 1, none⟩ = some (.int .i64 0) := (blk_cell BK74.out 1).trans rfl
 have hfz75_BK74_1 := blk_frozen BK74.out 1
 have hcz75_BK74_2 : w74_.cell? ⟨gb74_, 2, none⟩ = some (.int .i64 0) := (blk_cell BK74.out 2).trans rfl
 have hfz75_BK74_2 := blk_frozen BK74.out 2
 have hcz75_BK74_3 : w74_.cell? ⟨gb74_, 3, none⟩ = some (.int .i64 0) := (blk_cell BK74.out 3).trans rfl
 have hfz75_BK74_3 := blk_frozen BK74.out 3
 refine norm_ (a' := ?_) ?_ ?_
 rotate_left
 ·simp only [putAll, Act.put, List.setIfInBounds_toArray, List.set_cons_zero, List.set_cons_succ]
  rfl
 refine one_ (i := 9) (N := none) #[tT, tT, tT, tT, tT, tT, tT, tT, tT, tT, fF] rfl rfl (one_of HT_.out kf) (by decide) (fun K hK => ?_)
 refine store_draw (w1 := ((((w74_.setCell ⟨gb74_, 0, none⟩ (.int .i64 r1_0)).setCell ⟨gb74_, 1, none⟩ (.int .i64 r1_1)).setCell ⟨gb74_, 2, none⟩ (.int .i64 r1_2)).setCell ⟨gb74_, 3, none⟩ (.int .i64 r1_3))) (by rfl) rfl ?hr ?_
 (case hr => first | (go_simp; done) | (go_simp; rfl))
 intro w76_ hw
 have hk := ((((Kept.refl w74_ (fun k_ => k_ = gb74_)).setCell (p := ⟨gb74_, 0, none⟩) (.inl rfl) (.int .i64 r1_0)).setCell (p := ⟨gb74_, 1, none⟩) (.inl rfl) (.int .i64 r1_1)).setCell (p := ⟨gb74_, 2, none⟩) (.inl rfl) (.int .i64 r1_2)).setCell (p := ⟨gb74_, 3, none⟩) (.inl rfl) (.int .i64 r1_3)
 rw [← hw] at hk
 have nO42_0_ := Aside0.mk (Kd.R_kept (kr O42_0) hk (fun k_ h1_ h2_ => by have := GB74.out; have := GB1.out; have := GB12.out; have := Q42_0.out; have := Q44_1.out; have := GB46.out; have := GB52.out; have := Q58_0.out; have := Q63_1.out; have := GB74.out; omega))
 have nO44_0_ := Aside0.mk (Kd.R_kept (kr O44_0) hk (fun k_ h1_ h2_ => by have := GB74.out; have := GB1.out; have := GB12.out; have := Q42_0.out; have := Q44_1.out; have := GB46.out; have := GB52.out; have := Q58_0.out; have := Q63_1.out; have := GB74.out; omega))
 have nO44_1_ := Aside0.mk (Kd.R_kept (kr O44_1) hk (fun k_ h1_ h2_ => by have := GB74.out; have := GB1.out; have := GB12.out; have := Q42_0.out; have := Q44_1.out; have := GB46.out; have := GB52.out; have := Q58_0.out; have := Q63_1.out; have := GB74.out; omega))
 have nO58_0_ := Aside0.mk (Kd.R_kept (kr O58_0) hk (fun k_ h1_ h2_ => by have := GB74.out; have := GB1.out; have := GB12.out; have := Q42_0.out; have := Q44_1.out; have := GB46.out; have := GB52.out; have := Q58_0.out; have := Q63_1.out; have := GB74.out; omega))
 have nO63_0_ := Aside0.mk (Kd.R_kept (kr O63_0) hk (fun k_ h1_ h2_ => by have := GB74.out; have := GB1.out; have := GB12.out; have := Q42_0.out; have := Q44_1.out; have := GB46.out; have := GB52.out; have := Q58_0.out; have := Q63_1.out; have := GB74.out; omega))
 have nO63_1_ := Aside0.mk (Kd.R_kept (kr O63_1) hk (fun k_ h1_ h2_ => by have := GB74.out; have := GB1.out; have := GB12.out; have := Q42_0.out; have := Q44_1.out; have := GB46.out; have := GB52.out; have := Q58_0.out; have := Q63_1.out; have := GB74.out; omega))
 have nBK1_ : Aside0 (w76_.heap[gb1_]? = some (.cells #[.int .i64 a1, .slice A1_1 l1_1.length c1_1, .slice A1_2 l1_2.length c1_2] 25 (0, 0))) := ⟨by rw [hw]; exact (blk_far (blk_far (blk_far (blk_far BK1.out (p := ⟨gb74_, 0, none⟩) NBBK1_74.out _) (p := ⟨gb74_, 1, none⟩) NBBK1_74.out _) (p := ⟨gb74_, 2, none⟩) NBBK1_74.out _) (p := ⟨gb74_, 3, none⟩) NBBK1_74.out _)⟩
 have nBK12_ : Aside0 (w76_.heap[gb12_]? = some (.cells #[.int .i64 r1_0, .int .i64 r1_1, .int .i64 r1_2, .int .i64 r1_3] 31 (0, 0))) := ⟨by rw [hw]; exact (blk_far (blk_far (blk_far (blk_far BK12.out (p := ⟨gb74_, 0, none⟩) NBBK12_74.out _) (p := ⟨gb74_, 1, none⟩) NBBK12_74.out _) (p := ⟨gb74_, 2, none⟩) NBBK12_74.out _) (p := ⟨gb74_, 3, none⟩) NBBK12_74.out _)⟩
 have nBK46_ : Aside0 (w76_.heap[gb46_]? = some (.cells #[.int .i64 a1, .slice (some ⟨g44_0_, 0, none⟩) l1_1.length (pad l1_1).length, .slice (some ⟨g44_1_, 0, none⟩) l1_2.length (pad l1_2).length] 36 (0, 0))) := ⟨by rw [hw]; exact (blk_far (blk_far (blk_far (blk_far BK46.out (p := ⟨gb74_, 0, none⟩) NBBK46_74.out _) (p := ⟨gb74_, 1, none⟩) NBBK46_74.out _) (p := ⟨gb74_, 2, none⟩) NBBK46_74.out _) (p := ⟨gb74_, 3, none⟩) NBBK46_74.out _)⟩
 have nBK52_ : Aside0 (w76_.heap[gb52_]? = some (.cells #[.int .i64 r1_0, .int .i64 r1_1, .int .i64 r1_2, .int .i64 r1_3] 31 (0, 0))) := ⟨by rw [hw]; exact (blk_far (blk_far (blk_far (blk_far BK52.out (p := ⟨gb74_, 0, none⟩) NBBK52_74.out _) (p := ⟨gb74_, 1, none⟩) NBBK52_74.out _) (p := ⟨gb74_, 2, none⟩) NBBK52_74.out _) (p := ⟨gb74_, 3, none⟩) NBBK52_74.out _)⟩
 have nBK74_ : Aside0 (w76_.heap[gb74_]? = some (.cells #[.int .i64 r1_0, .int .i64 r1_1, .int .i64 r1_2, .int .i64 r1_3] 31 (0, 0))) := ⟨by rw [hw]; exact (blk_put (cs' := #[.int .i64 r1_0, .int .i64 r1_1, .int .i64 r1_2, .int .i64 r1_3]) (blk_put (cs' := #[.int .i64 r1_0, .int .i64 r1_1, .int .i64 r1_2, .int .i64 0]) (blk_put (cs' := #[.int .i64 r1_0, .int .i64 r1_1, .int .i64 0, .int .i64 0]) (blk_put (cs' := #[.int .i64 r1_0, .int .i64 0, .int .i64 0, .int .i64 0]) BK74.out 0 (.int .i64 r1_0) rfl) 1 (.int .i64 r1_1) rfl) 2 (.int .i64 r1_2) rfl) 3 (.int .i64 r1_3) rfl)⟩
 have z2_ := Aside0.mk (Nat.le_trans (by exact Z.out) hk.1)
 have z4_ : Aside0 (Below w.heap.size w w76_) := ⟨by rw [hw]; exact (below_set (below_set (below_set (below_set HB.out GE74.out) GE74.out) GE74.out) GE74.out)⟩
 clear O42_0 O44_0 O44_1 O58_0 O63_0 O63_1 BK1 BK12 BK46 BK52 BK74 HB Z
 have O42_0 := nO42_0_
 have O44_0 := nO44_0_
 have O44_1 := nO44_1_
 have O58_0 := nO58_0_
 have O63_0 := nO63_0_
 have O63_1 := nO63_1_
 have BK1 := nBK1_
 have BK12 := nBK12_
 have BK46 := nBK46_
 have BK52 := nBK52_
 have BK74 := nBK74_
 have HB := z4_
 have Z := z2_
 clear nO42_0_ nO44_0_ nO44_1_ nO58_0_ nO63_0_ nO63_1_ nBK1_ nBK12_ nBK46_ nBK52_ nBK74_ z2_ z4_ hk hw
 (try clear hcz75_BK1_0 hfz75_BK1_0 hcz75_BK1_1 hfz75_BK1_1 hcz75_BK1_2 hfz75_BK1_2 hcz75_BK12_0 hfz75_BK12_0 hcz75_BK12_1 hfz75_BK12_1 hcz75_BK12_2 hfz75_BK12_2 hcz75_BK12_3 hfz75_BK12_3 hcz75_BK46_0 hfz75_BK46_0 hcz75_BK46_1 hfz75_BK46_1 hcz75_BK46_2 hfz75_BK46_2 hcz75_BK52_0 hfz75_BK52_0 hcz75_BK52_1 hfz75_BK52_1 hcz75_BK52_2 hfz75_BK52_2 hcz75_BK52_3 hfz75_BK52_3 hcz75_BK74_0 hfz75_BK74_0 hcz75_BK74_1 hfz75_BK74_1 hcz75_BK74_2 hfz75_BK74_2 hcz75_BK74_3 hfz75_BK74_3)
 have hcz77_BK1_0 : w76_.cell? ⟨gb1_, 0, none⟩ = some (.int .i64 a1) := (blk_cell BK1.out 0).trans rfl
 have hfz77_BK1_0 := blk_frozen BK1.out 0
 have hcz77_BK1_1 : w76_.cell? ⟨gb1_, 1, none⟩ = some (.slice A1_1 l1_1.length c1_1) := (blk_cell BK1.out 1).trans rfl
 have hfz77_BK1_1 := blk_frozen BK1.out 1
 have hcz77_BK1_2 : w76_.cell? ⟨gb1_, 2, none⟩ = some (.slice A1_2 l1_2.length c1_2) := (blk_cell BK1.out 2).trans rfl
 have hfz77_BK1_2 := blk_frozen BK1.out 2
 have hcz77_BK12_0 : w76_.cell? ⟨gb12_, 0, none⟩ = some (.int .i64 r1_0) := (blk_cell BK12.out 0).trans rfl
 have hfz77_BK12_0 := blk_frozen BK12.out 0
 have hcz77_BK12_1 : w76_.cell? ⟨gb12_, 1, none⟩ = some (.int .i64 r1_1) := (blk_cell BK12.out 1).trans rfl
 have hfz77_BK12_1 := blk_frozen BK12.out 1
 have hcz77_BK12_2 : w76_.cell? ⟨gb12_, 2, none⟩ = some (.int .i64 r1_2) := (blk_cell BK12.out 2).trans rfl
 have hfz77_BK12_2 := blk_frozen BK12.out 2
 have hcz77_BK12_3 : w76_.cell? ⟨gb12_, 3, none⟩ = some (.int .i64 r1_3) := (blk_cell BK12.out 3).trans rfl
 have hfz77_BK12_3 := blk_frozen BK12.out 3
 have hcz77_BK46_0 : w76_.cell? ⟨gb46_, 0, none⟩ = some (.int .i64 a1) := (blk_cell BK46.out 0).trans rfl
 have hfz77_BK46_0 := blk_frozen BK46.out 0
 have hcz77_BK46_1 : w76_.cell? ⟨gb46_, 1, none⟩ = some (.slice (some ⟨g44_0_, 0, none⟩) l1_1.length (pad l1_1).length) := (blk_cell BK46.out 1).trans rfl
 have hfz77_BK46_1 := blk_frozen BK46.out 1
 have hcz77_BK46_2 : w76_.cell? ⟨gb46_, 2, none⟩ = some (.slice (some ⟨g44_1_, 0, none⟩) l1_2.length (pad l1_2).length) := (blk_cell BK46.out 2).trans rfl
 have hfz77_BK46_2 := blk_frozen BK46.out 2
 have hcz77_BK52_0 : w76_.cell? ⟨gb52_, 0, none⟩ = some (.int .i64 r1_0) := (blk_cell BK52.out 0).trans rfl
 have hfz77_BK52_0 := blk_frozen BK52.out 0
 have hcz77_BK52_1 : w76_.cell? ⟨gb52_, 1, none⟩ = some (.int .i64 r1_1) := (blk_cell BK52.out 1).trans rfl
 have hfz77_BK52_1 := blk_frozen BK52.out 1
 have hcz77_BK52_2 : w76_.cell? ⟨gb52_, 2, none⟩ = some (.int .i64 r1_2) := (blk_cell BK52.out 2).trans rfl
 have hfz77_BK52_2 := blk_frozen BK52.out 2
 have hcz77_BK52_3 : w76_.cell? ⟨gb52_, 3, none⟩ = some (.int .i64 r1_3) := (blk_cell BK52.out 3).trans rfl
 have hfz77_BK52_3 := blk_frozen BK52.out 3
 have hcz77_BK74_0 : w76_.cell? ⟨gb74_, 0, none⟩ = some (.int .i64 r1_0) := (blk_cell BK74.out 0).trans rfl
 have hfz77_BK74_0 := blk_frozen BK74.out 0
 have hcz77_BK74_1 : w76_.cell? ⟨gb74_, 1, none⟩ = some (.int .i64 r1_1) := (blk_cell BK74.out 1).trans rfl
 have hfz77_BK74_1 := blk_frozen BK74.out 1
 have hcz77_BK74_2 : w76_.cell? ⟨gb74_, 2, none⟩ = some (.int .i64 r1_2) := (blk_cell BK74.out 2).trans rfl
 have hfz77_BK74_2 := blk_frozen BK74.out 2
 have hcz77_BK74_3 : w76_.cell? ⟨gb74_, 3, none⟩ = some (.int .i64 r1_3) := (blk_cell BK74.out 3).trans rfl
 have hfz77_BK74_3 := blk_frozen BK74.out 3
 refine hK.out _ _ ⟨((blk_cell BK1.out 0).trans rfl), ((blk_cell BK1.out 1).trans rfl), ((blk_cell BK1.out 2).trans rfl), ((blk_cell BK12.out 0).trans rfl), ((blk_cell BK12.out 1).trans rfl), ((blk_cell BK12.out 2).trans rfl), ((blk_cell BK12.out 3).trans rfl), ((blk_cell BK46.out 0).trans rfl), ((blk_cell BK46.out 1).trans rfl), ((blk_cell BK46.out 2).trans rfl), ((blk_cell BK52.out 0).trans rfl), ((blk_cell BK52.out 1).trans rfl), ((blk_cell BK52.out 2).trans rfl), ((blk_cell BK52.out 3).trans rfl)⟩ (fun hHeld => ?_)
 clear hK K
 refine pq (i := 10) (N := some 13) #[tT, tT, tT, tT, tT, tT, tT, tT, tT, tT, tT] rfl rfl HT_.out ?_
 refine done_ (done_of HT_.out kf) ?_
 go_wp2_with (first
  | ((with_reducible refine gate_callee (f := 11) rfl ?_); refine goesL_ (some 71) rfl rfl Tryz.func11 kf rfl #[.agg #[.int .i64 r1_0, .int .i64 r1_1, .int .i64 r1_2, .int .i64 r1_3], .agg #[.int .i64 r1_0, .int .i64 r1_1, .int .i64 r1_2, .int .i64 r1_3]] rfl sm ?_; (with_reducible refine (laws_eqInterval.calls r1_0 r1_1 r1_2 r1_3 r1_0 r1_1 r1_2 r1_3 true _ HEQInterval.out).mono ?_); rintro e w104_ ⟨rfl, hb⟩; refine ⟨_, rfl, ?_⟩; obtain ⟨z2_, z4_⟩ := still (by exact Z.out) bz hb; have nO42_0_ := Aside0.mk (Kd.R_below (kr O42_0) hb); have nO44_0_ := Aside0.mk (Kd.R_below (kr O44_0) hb); have nO44_1_ := Aside0.mk (Kd.R_below (kr O44_1) hb); have nO58_0_ := Aside0.mk (Kd.R_below (kr O58_0) hb); have nO63_0_ := Aside0.mk (Kd.R_below (kr O63_0) hb); have nO63_1_ := Aside0.mk (Kd.R_below (kr O63_1) hb); have nBK1_ := bb BK1 hb; have nBK12_ := bb BK12 hb; have nBK46_ := bb BK46 hb; have nBK52_ := bb BK52 hb; have nBK74_ := bb BK74 hb; clear O42_0 O44_0 O44_1 O58_0 O63_0 O63_1 BK1 BK12 BK46 BK52 BK74 HB Z; have O42_0 := nO42_0_; have O44_0 := nO44_0_; have O44_1 := nO44_1_; have O58_0 := nO58_0_; have O63_0 := nO63_0_; have O63_1 := nO63_1_; have BK1 := nBK1_; have BK12 := nBK12_; have BK46 := nBK46_; have BK52 := nBK52_; have BK74 := nBK74_; clear nO42_0_ nO44_0_ nO44_1_ nO58_0_ nO63_0_ nO63_1_ nBK1_ nBK12_ nBK46_ nBK52_ nBK74_; have HB := Aside0.mk z4_; have Z := Aside0.mk z2_; clear z2_ z4_ hb; (try clear hcz77_BK1_0 hfz77_BK1_0 hcz77_BK1_1 hfz77_BK1_1 hcz77_BK1_2 hfz77_BK1_2 hcz77_BK12_0 hfz77_BK12_0 hcz77_BK12_1 hfz77_BK12_1 hcz77_BK12_2 hfz77_BK12_2 hcz77_BK12_3 hfz77_BK12_3 hcz77_BK46_0 hfz77_BK46_0 hcz77_BK46_1 hfz77_BK46_1 hcz77_BK46_2 hfz77_BK46_2 hcz77_BK52_0 hfz77_BK52_0 hcz77_BK52_1 hfz77_BK52_1 hcz77_BK52_2 hfz77_BK52_2 hcz77_BK52_3 hfz77_BK52_3 hcz77_BK74_0 hfz77_BK74_0 hcz77_BK74_1 hfz77_BK74_1 hcz77_BK74_2 hfz77_BK74_2 hcz77_BK74_3 hfz77_BK74_3); have hcz105_BK1_0 : w104_.cell? ⟨gb1_, 0, none⟩ = some (.int .i64 a1) := (blk_cell BK1.out 0).trans rfl; have hfz105_BK1_0 := blk_frozen BK1.out 0; have hcz105_BK1_1 : w104_.cell? ⟨gb1_, 1, none⟩ = some (.slice A1_1 l1_1.length c1_1) := (blk_cell BK1.out 1).trans rfl; have hfz105_BK1_1 := blk_frozen BK1.out 1; have hcz105_BK1_2 : w104_.cell? ⟨gb1_, 2, none⟩ = some (.slice A1_2 l1_2.length c1_2) := (blk_cell BK1.out 2).trans rfl; have hfz105_BK1_2 := blk_frozen BK1.out 2; have hcz105_BK12_0 : w104_.cell? ⟨gb12_, 0, none⟩ = some (.int .i64 r1_0) := (blk_cell BK12.out 0).trans rfl; have hfz105_BK12_0 := blk_frozen BK12.out 0; have hcz105_BK12_1 : w104_.cell? ⟨gb12_, 1, none⟩ = some (.int .i64 r1_1) := (blk_cell BK12.out 1).trans rfl; have hfz105_BK12_1 := blk_frozen BK12.out 1; have hcz105_BK12_2 : w104_.cell? ⟨gb12_, 2, none⟩ = some (.int .i64 r1_2) := (blk_cell BK12.out 2).trans rfl; have hfz105_BK12_2 := blk_frozen BK12.out 2; have hcz105_BK12_3 : w104_.cell? ⟨gb12_, 3, none⟩ = some (.int .i64 r1_3) := (blk_cell BK12.out 3).trans rfl; have hfz105_BK12_3 := blk_frozen BK12.out 3; have hcz105_BK46_0 : w104_.cell? ⟨gb46_, 0, none⟩ = some (.int .i64 a1) := (blk_cell BK46.out 0).trans rfl; have hfz105_BK46_0 := blk_frozen BK46.out 0; have hcz105_BK46_1 : w104_.cell? ⟨gb46_, 1, none⟩ = some (.slice (some ⟨g44_0_, 0, none⟩) l1_1.length (pad l1_1).length) := (blk_cell BK46.out 1).trans rfl; have hfz105_BK46_1 := blk_frozen BK46.out 1; have hcz105_BK46_2 : w104_.cell? ⟨gb46_, 2, none⟩ = some (.slice (some ⟨g44_1_, 0, none⟩) l1_2.length (pad l1_2).length) := (blk_cell BK46.out 2).trans rfl; have hfz105_BK46_2 := blk_frozen BK46.out 2; have hcz105_BK52_0 : w104_.cell? ⟨gb52_, 0, none⟩ = some (.int .i64 r1_0) := (blk_cell BK52.out 0).trans rfl; have hfz105_BK52_0 := blk_frozen BK52.out 0; have hcz105_BK52_1 : w104_.cell? ⟨gb52_, 1, none⟩ = some (.int .i64 r1_1) := (blk_cell BK52.out 1).trans rfl; have hfz105_BK52_1 := blk_frozen BK52.out 1; have hcz105_BK52_2 : w104_.cell? ⟨gb52_, 2, none⟩ = some (.int .i64 r1_2) := (blk_cell BK52.out 2).trans rfl; have hfz105_BK52_2 := blk_frozen BK52.out 2; have hcz105_BK52_3 : w104_.cell? ⟨gb52_, 3, none⟩ = some (.int .i64 r1_3) := (blk_cell BK52.out 3).trans rfl; have hfz105_BK52_3 := blk_frozen BK52.out 3; have hcz105_BK74_0 : w104_.cell? ⟨gb74_, 0, none⟩ = some (.int .i64 r1_0) := (blk_cell BK74.out 0).trans rfl; have hfz105_BK74_0 := blk_frozen BK74.out 0; have hcz105_BK74_1 : w104_.cell? ⟨gb74_, 1, none⟩ = some (.int .i64 r1_1) := (blk_cell BK74.out 1).trans rfl; have hfz105_BK74_1 := blk_frozen BK74.out 1; have hcz105_BK74_2 : w104_.cell? ⟨gb74_, 2, none⟩ = some (.int .i64 r1_2) := (blk_cell BK74.out 2).trans rfl; have hfz105_BK74_2 := blk_frozen BK74.out 2; have hcz105_BK74_3 : w104_.cell? ⟨gb74_, 3, none⟩ = some (.int .i64 r1_3) := (blk_cell BK74.out 3).trans rfl; have hfz105_BK74_3 := blk_frozen BK74.out 3))
 go_ret
 exact ⟨by first | rfl | (simp; done), bz⟩
set_option maxHeartbeats 8000000 in
set_option maxRecDepth 100000 in
theorem law_big0 (A0 : Option Addr) (c0 : Nat) (l0 : List S57) (a1 : Int) (A1_1 : Option Addr) (c1_1 : Nat) (l1_1 : List Int) (A1_2 : Option Addr) (c1_2 : Nat) (l1_2 : List Int) (w : World) (hr0 : Kd.C k57 w A0 l0.length l0) (hc0 : l0.length ≤ c0) (hr1_1 : Kd.C (Kd.int .i64) w A1_1 l1_1.length l1_1) (hc1_1 : l1_1.length ≤ c1_1) (hr1_2 : Kd.C (Kd.int .i64) w A1_2 l1_2.length l1_2) (hc1_2 : l1_2.length ≤ c1_2) (hn : ¬ l0.length ≤ 1000000) :
 Calls Tryz.prog 3 #[.slice A0 l0.length c0, .agg #[.int .i64 a1, .slice A1_1 l1_1.length c1_1, .slice A1_2 l1_2.length c1_2]] w fun e w' => e = .returned (.bool true) ∧ Below w.heap.size w w' := by
 have HR0 := Aside0.mk hr0; have HC0 := Aside0.mk hc0; have hm0 := hr0.2.1
 have HR1_1 := Aside0.mk hr1_1; have HC1_1 := Aside0.mk hc1_1; have hm1_1 := hr1_1.2.1
 have HR1_2 := Aside0.mk hr1_2; have HC1_2 := Aside0.mk hc1_2; have hm1_2 := hr1_2.2.1
 obtain ⟨s0, hs0⟩ : ∃ s : Int, s = (-1) := ⟨_, rfl⟩
 have hzs0 : laws_szTermS.f l0 1000000 = some s0 := by unfold laws_szTermS.f; rw [if_pos (by unfold wrap64; omega), hs0]
 have HSZ0 := Aside0.mk hzs0
 have cs0 : decide (s0 < 0) = true := decide_eq_true (by omega)
 have HB := Aside0.mk (Below.refl w.heap.size w)
 have Z := Aside0.mk (Nat.zero_le w.heap.size)
 clear hn hr0 hc0 hm0 hr1_1 hc1_1 hm1_1 hr1_2 hc1_2 hm1_2 hs0 hzs0
 go_enter Tryz.func3, Tryz.ntmps3
 go_wp2_with (first
  | ((with_reducible refine gate_dst (N := 3) rfl ?_); refine bv (N := 3) (cs := #[.int .i64 a1, .slice A1_1 l1_1.length c1_1, .slice A1_2 l1_2.length c1_2]) (t := 25) ?_; intro gb1_ hg w1_ hbox hb; obtain ⟨z2_, z4_⟩ := still (by exact Z.out) bz hb; have GB1 : Aside0 (0 ≤ gb1_) := ⟨by rw [hg]; exact Z.out⟩; have zb_ : gb1_ + 1 ≤ w1_.heap.size := blk_lt hbox; have BK1 := Aside0.mk hbox; clear HB Z; have HB := Aside0.mk z4_; have Z := Aside0.mk zb_; clear z2_ z4_ zb_ hb hg hbox; have hcz2_BK1_0 : w1_.cell? ⟨gb1_, 0, none⟩ = some (.int .i64 a1) := (blk_cell BK1.out 0).trans rfl; have hfz2_BK1_0 := blk_frozen BK1.out 0; have hcz2_BK1_1 : w1_.cell? ⟨gb1_, 1, none⟩ = some (.slice A1_1 l1_1.length c1_1) := (blk_cell BK1.out 1).trans rfl; have hfz2_BK1_1 := blk_frozen BK1.out 1; have hcz2_BK1_2 : w1_.cell? ⟨gb1_, 2, none⟩ = some (.slice A1_2 l1_2.length c1_2) := (blk_cell BK1.out 2).trans rfl; have hfz2_BK1_2 := blk_frozen BK1.out 2)
  | ((with_reducible refine gate_callee (f := 5) rfl ?_); refine goesL_ (some 16) rfl rfl Tryz.func5 kf rfl #[.slice A0 l0.length c0, .int .i64 1000000] rfl sm ?_; (with_reducible refine (laws_szTermS.calls _ _ l0 1000000 s0 _ ?side1 ?side2 HSZ0.out).mono ?_); (case side1 => repeat (first | exact HR0.out | exact (Kd.C_below HR0.out bz) | (with_reducible refine Kd.C_alloc ?_ _) | (with_reducible refine Kd.C_drewN ?_ _) | (with_reducible refine Kd.C_drew ?_))); (case side2 => exact HC0.out); rintro e w' ⟨rfl, ⟨nd, rfl⟩⟩; refine ⟨_, rfl, ?_⟩))
 go_ret
 exact ⟨by first | rfl | (simp; done), bz⟩
set_option maxHeartbeats 8000000 in
set_option maxRecDepth 100000 in
theorem law_big1 (A0 : Option Addr) (c0 : Nat) (l0 : List S57) (a1 : Int) (A1_1 : Option Addr) (c1_1 : Nat) (l1_1 : List Int) (A1_2 : Option Addr) (c1_2 : Nat) (l1_2 : List Int) (w : World) (hr0 : Kd.C k57 w A0 l0.length l0) (hc0 : l0.length ≤ c0) (hr1_1 : Kd.C (Kd.int .i64) w A1_1 l1_1.length l1_1) (hc1_1 : l1_1.length ≤ c1_1) (hr1_2 : Kd.C (Kd.int .i64) w A1_2 l1_2.length l1_2) (hc1_2 : l1_2.length ≤ c1_2) (hn1 : l0.length ≤ 1000000) (hn : ¬ l0.length + l1_1.length + l1_2.length ≤ 1000000) :
 Calls Tryz.prog 3 #[.slice A0 l0.length c0, .agg #[.int .i64 a1, .slice A1_1 l1_1.length c1_1, .slice A1_2 l1_2.length c1_2]] w fun e w' => e = .returned (.bool true) ∧ Below w.heap.size w w' := by
 have HR0 := Aside0.mk hr0; have HC0 := Aside0.mk hc0; have hm0 := hr0.2.1
 have HR1_1 := Aside0.mk hr1_1; have HC1_1 := Aside0.mk hc1_1; have hm1_1 := hr1_1.2.1
 have HR1_2 := Aside0.mk hr1_2; have HC1_2 := Aside0.mk hc1_2; have hm1_2 := hr1_2.2.1
 obtain ⟨s0, hs0⟩ : ∃ s : Int, s = (1000000 : Int) - (l0.length : Int) := ⟨_, rfl⟩
 have hzs0 : laws_szTermS.f l0 1000000 = some s0 := by unfold laws_szTermS.f; rw [if_neg (by unfold wrap64; omega)]; congr 1; unfold wrap64; omega
 have HSZ0 := Aside0.mk hzs0
 have cs0 : decide (s0 < 0) = false := decide_eq_false (by omega)
 obtain ⟨s1, hs1⟩ : ∃ s : Int, s = (-1) := ⟨_, rfl⟩
 have hzs1 : laws_szBox.f a1 l1_1 l1_2 s0 = some s1 := by unfold laws_szBox.f; unfold laws_szIntS.f; (by_cases hA_ : wrap64 (s0 - (l1_1.length : Int)) < 0 <;> by_cases hB_ : wrap64 (wrap64 (s0 - (l1_1.length : Int)) - (l1_2.length : Int)) < 0 <;> simp [hA_, hB_] <;> (unfold wrap64 at *; omega))
 have HSZ1 := Aside0.mk hzs1
 have cs1 : decide (s1 < 0) = true := decide_eq_true (by omega)
 have HB := Aside0.mk (Below.refl w.heap.size w)
 have Z := Aside0.mk (Nat.zero_le w.heap.size)
 clear hn hn1 hr0 hc0 hm0 hr1_1 hc1_1 hm1_1 hr1_2 hc1_2 hm1_2 hs0 hzs0 hs1 hzs1
 go_enter Tryz.func3, Tryz.ntmps3
 go_wp2_with (first
  | ((with_reducible refine gate_dst (N := 3) rfl ?_); refine bv (N := 3) (cs := #[.int .i64 a1, .slice A1_1 l1_1.length c1_1, .slice A1_2 l1_2.length c1_2]) (t := 25) ?_; intro gb1_ hg w1_ hbox hb; obtain ⟨z2_, z4_⟩ := still (by exact Z.out) bz hb; have GB1 : Aside0 (0 ≤ gb1_) := ⟨by rw [hg]; exact Z.out⟩; have zb_ : gb1_ + 1 ≤ w1_.heap.size := blk_lt hbox; have BK1 := Aside0.mk hbox; clear HB Z; have HB := Aside0.mk z4_; have Z := Aside0.mk zb_; clear z2_ z4_ zb_ hb hg hbox; have hcz2_BK1_0 : w1_.cell? ⟨gb1_, 0, none⟩ = some (.int .i64 a1) := (blk_cell BK1.out 0).trans rfl; have hfz2_BK1_0 := blk_frozen BK1.out 0; have hcz2_BK1_1 : w1_.cell? ⟨gb1_, 1, none⟩ = some (.slice A1_1 l1_1.length c1_1) := (blk_cell BK1.out 1).trans rfl; have hfz2_BK1_1 := blk_frozen BK1.out 1; have hcz2_BK1_2 : w1_.cell? ⟨gb1_, 2, none⟩ = some (.slice A1_2 l1_2.length c1_2) := (blk_cell BK1.out 2).trans rfl; have hfz2_BK1_2 := blk_frozen BK1.out 2)
  | ((with_reducible refine gate_callee (f := 5) rfl ?_); refine goesL_ (some 16) rfl rfl Tryz.func5 kf rfl #[.slice A0 l0.length c0, .int .i64 1000000] rfl sm ?_; (with_reducible refine (laws_szTermS.calls _ _ l0 1000000 s0 _ ?side1 ?side2 HSZ0.out).mono ?_); (case side1 => repeat (first | exact HR0.out | exact (Kd.C_below HR0.out bz) | (with_reducible refine Kd.C_alloc ?_ _) | (with_reducible refine Kd.C_drewN ?_ _) | (with_reducible refine Kd.C_drew ?_))); (case side2 => exact HC0.out); rintro e w' ⟨rfl, ⟨nd, rfl⟩⟩; refine ⟨_, rfl, ?_⟩)
  | ((with_reducible refine gate_callee (f := 6) rfl ?_); refine goesL_ (some 21) rfl rfl Tryz.func6 kf rfl #[.agg #[.int .i64 a1, .slice A1_1 l1_1.length c1_1, .slice A1_2 l1_2.length c1_2], .int .i64 s0] rfl sm ?_; (with_reducible refine (laws_szBox.calls a1 _ _ l1_1 _ _ l1_2 s0 s1 _ ?side1 ?side2 ?side3 ?side4 HSZ1.out).mono ?_); (case side1 => repeat (first | exact HR1_1.out | exact (Kd.C_below HR1_1.out bz) | (with_reducible refine Kd.C_alloc ?_ _) | (with_reducible refine Kd.C_drewN ?_ _) | (with_reducible refine Kd.C_drew ?_))); (case side2 => exact HC1_1.out); (case side3 => repeat (first | exact HR1_2.out | exact (Kd.C_below HR1_2.out bz) | (with_reducible refine Kd.C_alloc ?_ _) | (with_reducible refine Kd.C_drewN ?_ _) | (with_reducible refine Kd.C_drew ?_))); (case side4 => exact HC1_2.out); rintro e w3_ ⟨rfl, hb⟩; refine ⟨_, rfl, ?_⟩; obtain ⟨z2_, z4_⟩ := still (by exact Z.out) bz hb; have nBK1_ := bb BK1 hb; clear BK1 HB Z; have BK1 := nBK1_; clear nBK1_; have HB := Aside0.mk z4_; have Z := Aside0.mk z2_; clear z2_ z4_ hb; (try clear hcz2_BK1_0 hfz2_BK1_0 hcz2_BK1_1 hfz2_BK1_1 hcz2_BK1_2 hfz2_BK1_2); have hcz4_BK1_0 : w3_.cell? ⟨gb1_, 0, none⟩ = some (.int .i64 a1) := (blk_cell BK1.out 0).trans rfl; have hfz4_BK1_0 := blk_frozen BK1.out 0; have hcz4_BK1_1 : w3_.cell? ⟨gb1_, 1, none⟩ = some (.slice A1_1 l1_1.length c1_1) := (blk_cell BK1.out 1).trans rfl; have hfz4_BK1_1 := blk_frozen BK1.out 1; have hcz4_BK1_2 : w3_.cell? ⟨gb1_, 2, none⟩ = some (.slice A1_2 l1_2.length c1_2) := (blk_cell BK1.out 2).trans rfl; have hfz4_BK1_2 := blk_frozen BK1.out 2))
 go_ret
 exact ⟨by first | rfl | (simp; done), bz⟩
def Pure : Prop := ∀ (l0 : List S57) (a1 : Int) (l1_1 l1_2 : List Int), l0.length + l1_1.length + l1_2.length ≤ 1000000 → ∃ (ks ki : Nat) (r1_0 : Int) (r1_1 : Int) (r1_2 : Int) (r1_3 : Int) (r2 : Bool), spec_ValueOver.f ks (l0.map cvTermS) a1 l1_1 l1_2 = some (r1_0, r1_1, r1_2, r1_3, r2) ∧ impl_ValueOver.f ki (l0.map cvTermS) a1 l1_1 l1_2 = some (r1_0, r1_1, r1_2, r1_3, r2)
theorem law_holds (P_ : Pure) (A0 : Option Addr) (c0 : Nat) (l0 : List S57) (a1 : Int) (A1_1 : Option Addr) (c1_1 : Nat) (l1_1 : List Int) (A1_2 : Option Addr) (c1_2 : Nat) (l1_2 : List Int) (w : World) (hr0 : Kd.C k57 w A0 l0.length l0) (hc0 : l0.length ≤ c0) (hr1_1 : Kd.C (Kd.int .i64) w A1_1 l1_1.length l1_1) (hc1_1 : l1_1.length ≤ c1_1) (hr1_2 : Kd.C (Kd.int .i64) w A1_2 l1_2.length l1_2) (hc1_2 : l1_2.length ≤ c1_2) :
 Calls Tryz.prog 3 #[.slice A0 l0.length c0, .agg #[.int .i64 a1, .slice A1_1 l1_1.length c1_1, .slice A1_2 l1_2.length c1_2]] w fun e w' => e = .returned (.bool true) ∧ Below w.heap.size w w' := by
 by_cases hn0 : l0.length ≤ 1000000
 case neg => exact law_big0 A0 c0 l0 a1 A1_1 c1_1 l1_1 A1_2 c1_2 l1_2 w hr0 hc0 hr1_1 hc1_1 hr1_2 hc1_2 hn0
 by_cases hn1 : l0.length + l1_1.length + l1_2.length ≤ 1000000
 case neg => exact law_big1 A0 c0 l0 a1 A1_1 c1_1 l1_1 A1_2 c1_2 l1_2 w hr0 hc0 hr1_1 hc1_1 hr1_2 hc1_2 hn0 hn1
 have hn := hn1
 obtain ⟨ks, ki, r1_0, r1_1, r1_2, r1_3, r2, hs, hi⟩ := P_ l0 a1 l1_1 l1_2 (by omega)
 obtain ⟨kw0, hw0⟩ := toTermS_whole l0 (by omega)
 obtain ⟨kb0, hba0⟩ := toTermS_bare l0 (by omega)
 have hrm0 := room_le l0.length
 obtain ⟨kb1, hba1⟩ := toBox_bare a1 l1_1 l1_2 (by omega) (by omega)
 exact law_walk A0 c0 l0 a1 A1_1 c1_1 l1_1 A1_2 c1_2 l1_2 _ (padTermS l0) kw0 kb0 ((padTermS l0).length + 1) kb1 w hr0 hc0 hr1_1 hc1_1 hr1_2 hc1_2 hw0 hba0 (by simp) ⟨_, rfl⟩ (by rw [padTermS_length, List.length_map]) (eqTermS_self _ (by rw [padTermS_length]; omega))  hba1 (by omega) ks ki r1_0 r1_1 r1_2 r1_3 r2 hs hi
end Go.Proofs.YtalcohajbcijlaaGreat.QVov
