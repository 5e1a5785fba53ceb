import Derived.Test.YtalcohajbcijlaaGreatZValueOverSq
import Derived.Test.YtalcohajbcijlaaGreatZValueOverQVovx1
import Derived.Test.YtalcohajbcijlaaGreatZValueOverQVovx2
import Derived.Test.YtalcohajbcijlaaGreatZValueOverEvV
set_option linter.unusedVariables false
namespace Go.Proofs.YtalcohajbcijlaaGreat.QVov
open Go.RowKit Go.Proofs.YtalcohajbcijlaaGreatW.PrintWords
abbrev cTerm : Ev.RKc := .pair (.int .i64) (.pair (.int .i64) (.pair (.int .i64) (.int .i64)))
abbrev tm55 (l : List S55) : List (Int × Int × Int × Int) := l.map fun x => (x.f0, x.f1, x.f2, x.f3)
def spec_ValueOver.f (k : Nat) (l0 : List S55) (a1_0 : Int) (l1_1 l1_2 : List Int) : Option (Int × Int × Int × Int × Bool) := Ev.spec_ValueOver.f k (tm55 l0) a1_0 l1_1 l1_2
theorem spec_ValueOver.calls (k : Nat) (A0 : Option Addr) (c0 : Nat) (l0 : List S55) (a1_0 : Int) (A1_1 : Option Addr) (c1_1 : Nat) (l1_1 : List Int) (A1_2 : Option Addr) (c1_2 : Nat) (l1_2 : List Int) (r1 : Int) (r2 : Int) (r3 : Int) (r4 : Int) (r5 : Bool) (w : World) (hr0 : Kd.C k55 w A0 l0.length l0) (hc0 : l0.length ≤ c0) (hr1_1 : Kd.C (Kd.int .i64) w A1_1 l1_1.length l1_1) (hc1_1 : l1_1.length ≤ c1_1) (hr1_2 : Kd.C (Kd.int .i64) w A1_2 l1_2.length l1_2) (hc1_2 : l1_2.length ≤ c1_2) (h : spec_ValueOver.f k l0 a1_0 l1_1 l1_2 = some (r1, r2, r3, r4, r5)) :
 Calls Tryz.prog 7 #[.slice A0 l0.length c0, .agg #[.int .i64 a1_0, .slice A1_1 l1_1.length c1_1, .slice A1_2 l1_2.length c1_2]] w fun e w' => e = .returned (.tuple #[.agg #[.int .i64 r1, .int .i64 r2, .int .i64 r3, .int .i64 r4], .bool r5]) ∧ Below w.heap.size w w' := by
 have hr : Kd.C cTerm.kd w A0 (tm55 l0).length (tm55 l0) := Ev.kdC_iso hr0
 have hl : (tm55 l0).length = l0.length := List.length_map ..
 have hc : (tm55 l0).length ≤ c0 := by omega
 have h' : Ev.spec_ValueOver.f k (tm55 l0) a1_0 l1_1 l1_2 = some (r1, r2, r3, r4, r5) := h
 rw [← hl]
 generalize tm55 l0 = p at *
 have hg := Ev.OkC.calls (Ev.spec_ValueOver.ok k) (fn := Tryz.f7) ⟨by kernel_rfl, by kernel_rfl, by kernel_rfl⟩ (xs := [.val (.row cTerm p), .val (.agg [.v (.int .i64 a1_0), .row (.int .i64) l1_1, .row (.int .i64) l1_2])]) (r := (r1, r2, r3, r4, r5)) (by exact h')
  (vals := [.slice A0 p.length c0, .agg #[.int .i64 a1_0, .slice A1_1 l1_1.length c1_1, .slice A1_2 l1_2.length c1_2]]) (w := w)
  ⟨⟨rfl, Ev.vis_ofKd hr hc⟩, ⟨rfl, .agg (ys := [.int .i64 a1_0, .slice A1_1 l1_1.length c1_1, .slice A1_2 l1_2.length c1_2]) rfl fun i x y h1 h2 => by
   match i with
   | 0 => simp at h1 h2; subst h1 h2; exact .v _
   | 1 => simp at h1 h2; subst h1 h2; exact Ev.vis_ofKd (c := .int .i64) hr1_1 hc1_1
   | 2 => simp at h1 h2; subst h1 h2; exact Ev.vis_ofKd (c := .int .i64) hr1_2 hc1_2
   | n + 3 => simp at h1⟩, trivial⟩
 refine hg.mono fun e w' ⟨v, he, hv, hb⟩ => ⟨?_, hb⟩
 subst he
 obtain ⟨ys, rfl, hys⟩ := Ev.vis_tup hv
 match ys, hys with
 | [y1, y2], hys =>
  have e1 := hys.2 0 _ y1 rfl rfl
  have e2 := Ev.vis_v (hys.2 1 _ y2 rfl rfl)
  obtain ⟨zs, rfl, hzs⟩ := Ev.vis_agg e1
  rw [Ev.vis_cells hzs rfl, e2]
  rfl
 | [], hys => have := hys.1; cases this
 | [_], hys => have := hys.1; cases this
 | _ :: _ :: _ :: _, hys => have := hys.1; cases this
def impl_ValueOver.f (k : Nat) (l0 : List S55) (a1_0 : Int) (l1_1 l1_2 : List Int) : Option (Int × Int × Int × Int × Bool) := Ev.impl_ValueOver.f k (tm55 l0) a1_0 l1_1 l1_2
theorem impl_ValueOver.calls (k : Nat) (A0 : Option Addr) (c0 : Nat) (l0 : List S55) (a1_0 : Int) (A1_1 : Option Addr) (c1_1 : Nat) (l1_1 : List Int) (A1_2 : Option Addr) (c1_2 : Nat) (l1_2 : List Int) (r1 : Int) (r2 : Int) (r3 : Int) (r4 : Int) (r5 : Bool) (w : World) (hr0 : Kd.C k55 w A0 l0.length l0) (hc0 : l0.length ≤ c0) (hr1_1 : Kd.C (Kd.int .i64) w A1_1 l1_1.length l1_1) (hc1_1 : l1_1.length ≤ c1_1) (hr1_2 : Kd.C (Kd.int .i64) w A1_2 l1_2.length l1_2) (hc1_2 : l1_2.length ≤ c1_2) (h : impl_ValueOver.f k l0 a1_0 l1_1 l1_2 = some (r1, r2, r3, r4, r5)) :
 Calls Tryz.prog 10 #[.slice A0 l0.length c0, .agg #[.int .i64 a1_0, .slice A1_1 l1_1.length c1_1, .slice A1_2 l1_2.length c1_2]] w fun e w' => e = .returned (.tuple #[.agg #[.int .i64 r1, .int .i64 r2, .int .i64 r3, .int .i64 r4], .bool r5]) ∧ Below w.heap.size w w' := by
 have hr : Kd.C cTerm.kd w A0 (tm55 l0).length (tm55 l0) := Ev.kdC_iso hr0
 have hl : (tm55 l0).length = l0.length := List.length_map ..
 have hc : (tm55 l0).length ≤ c0 := by omega
 have h' : Ev.impl_ValueOver.f k (tm55 l0) a1_0 l1_1 l1_2 = some (r1, r2, r3, r4, r5) := h
 rw [← hl]
 generalize tm55 l0 = p at *
 have hg := Ev.OkC.calls (Ev.impl_ValueOver.ok k) (fn := Tryz.f10) ⟨by kernel_rfl, by kernel_rfl, by kernel_rfl⟩ (xs := [.val (.row cTerm p), .val (.agg [.v (.int .i64 a1_0), .row (.int .i64) l1_1, .row (.int .i64) l1_2])]) (r := (r1, r2, r3, r4, r5)) (by exact h')
  (vals := [.slice A0 p.length c0, .agg #[.int .i64 a1_0, .slice A1_1 l1_1.length c1_1, .slice A1_2 l1_2.length c1_2]]) (w := w)
  ⟨⟨rfl, Ev.vis_ofKd hr hc⟩, ⟨rfl, .agg (ys := [.int .i64 a1_0, .slice A1_1 l1_1.length c1_1, .slice A1_2 l1_2.length c1_2]) rfl fun i x y h1 h2 => by
   match i with
   | 0 => simp at h1 h2; subst h1 h2; exact .v _
   | 1 => simp at h1 h2; subst h1 h2; exact Ev.vis_ofKd (c := .int .i64) hr1_1 hc1_1
   | 2 => simp at h1 h2; subst h1 h2; exact Ev.vis_ofKd (c := .int .i64) hr1_2 hc1_2
   | n + 3 => simp at h1⟩, trivial⟩
 refine hg.mono fun e w' ⟨v, he, hv, hb⟩ => ⟨?_, hb⟩
 subst he
 obtain ⟨ys, rfl, hys⟩ := Ev.vis_tup hv
 match ys, hys with
 | [y1, y2], hys =>
  have e1 := hys.2 0 _ y1 rfl rfl
  have e2 := Ev.vis_v (hys.2 1 _ y2 rfl rfl)
  obtain ⟨zs, rfl, hzs⟩ := Ev.vis_agg e1
  rw [Ev.vis_cells hzs rfl, e2]
  rfl
 | [], hys => have := hys.1; cases this
 | [_], hys => have := hys.1; cases this
 | _ :: _ :: _ :: _, hys => have := hys.1; cases this
end Go.Proofs.YtalcohajbcijlaaGreat.QVov
