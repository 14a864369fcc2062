/- Chapter 7: Forward and Inverse, by the code. -/
import Derived.Test.YtnmmpceohkpaiaaPlainC
set_option linter.unusedVariables false
set_option linter.unusedSimpArgs false
namespace Go.Sh.c07
open p06 (Bd inR inR_iff isQ isQ_iff sc fwT bkT Fac ofN OfOk of_ok fwT_grows bkT_grows sq0 le_of_sq sq_le)

theorem f11r3_eq {N : Nat} (hN : 2000 ≤ N) {l : Nat} (hl : l ≤ 6) {z : List P2} (hz : z.length = 2 ^ l) {S : Int} (hS : 0 ≤ S) (hS2 : S ≤ 1152921504606846976) (sz : Sq S z) (b : Bool) (u : Unit × Unit) :
    f11r3F N ((), (((2 * 2 ^ l : Nat) : Int), ())) ((2 * 2 ^ l : Nat) : Int) b u z (List.replicate (2 * 2 ^ l) 0) = some (((((2 * 2 ^ l : Nat) : Int), ()), ((b, (u, ())), (((), ()), (((), ()), (z, (tab (2 ^ (l + 1)) (outF N (2 ^ (l + 1)) z), ())))))), ()) := by
  have hp : 2 ^ l ≤ 2 ^ 6 := Nat.pow_le_pow_right (by omega) (by omega)
  have hpp : 2 ^ (l + 1) = 2 * 2 ^ l := by rw [Nat.pow_succ]; omega
  rw [hpp]
  obtain ⟨g, hg⟩ : ∃ g : Nat → Int, g = outF N (2 * 2 ^ l) z := ⟨_, rfl⟩
  rw [← hg]
  obtain ⟨s, h1, h2⟩ := foldR_tab (m := 2 ^ l) (round := fun y o => f11r3d N y (o, ((), ((), ((), ((), ())))))) (plc (2 ^ l)) (fun k s => s.1 = (((2 * 2 ^ l : Nat) : Int), ()) ∧ s.2.1 = (b, (u, ())) ∧ s.2.2.2.2.1 = z ∧ Ws 0 (2 * 2 ^ l) (fun k => 2 * k) (fun k => 2 * 2 ^ l - 1 - 2 * k) g k s.2.2.2.2.2.1)
    (fun k s => ((((2 * 2 ^ l : Nat) : Int), ()), ((b, (u, ())), (((), ()), (((), ()), (z, ((s.2.2.2.2.2.1.set (2 * k) (g (2 * k))).set (2 * 2 ^ l - 1 - 2 * k) (g (2 * 2 ^ l - 1 - 2 * k)), ()))))))) (fun k s hk hs => by
    obtain ⟨⟨n', un⟩, ⟨b', u', ub⟩, uu, uu2, z', v, uv⟩ := s
    obtain ⟨s2, s3, s4, s5⟩ := hs
    simp only [Prod.mk.injEq] at s2 s3
    obtain ⟨rfl, _⟩ := s2
    obtain ⟨rfl, rfl, _⟩ := s3
    simp only at s4
    subst s4
    refine ⟨?_, rfl, rfl, rfl, s5.set (by omega) (by omega)⟩
    have hv := s5.1
    simp only at hv
    have c1 : ((2 * k : Nat) : Int) < (v.length : Int) := by omega
    have c2 : ((2 * 2 ^ l - 1 - 2 * k : Nat) : Int) < (v.length : Int) := by omega
    have c3 : (k : Int) < (z'.length : Int) := by omega
    obtain ⟨k1, k2⟩ := end_ok (n := 2 ^ (l + 1)) (k := k) rfl (by omega) (by omega)
    rw [hpp] at k1
    have t := tw_code (N := N) (by omega) (b', (u', ())) k1 k2 (in_of_sq (B := 1073741824) (by decide) (Int.le_trans (sz k).1 (by omega))) (in_of_sq (B := 1073741824) (by decide) (Int.le_trans (sz k).2 (by omega)))
    have q := tw_sq (N := N) (by omega) k1 k2 (sz k).1 (sz k).2
    have qb : Bd 1099511627776 _ := bd_sq (by decide) (Int.le_trans q.2 (show gS S ≤ 1208925819614629174706176 by unfold gS; omega))
    have e1 : g (2 * k) = (endF N (2 * 2 ^ l) z' k).1 := by rw [hg]; unfold outF; rw [if_pos (by omega), show 2 * k / 2 = k by omega]
    have e2 : g (2 * 2 ^ l - 1 - 2 * k) = -(endF N (2 * 2 ^ l) z' k).2 := by rw [hg]; unfold outF; rw [if_neg (by omega), show (2 * 2 ^ l - 1 - (2 * 2 ^ l - 1 - 2 * k)) / 2 = k by omega]
    simp only [f11r3d, f11r3c, plc, c1, c2, c3, show (0 : Int) ≤ ((2 * k : Nat) : Int) by omega, show (0 : Int) ≤ ((2 * 2 ^ l - 1 - 2 * k : Nat) : Int) by omega, show (0 : Int) ≤ (k : Int) by omega, decide_true, Bool.and_self, cond_true, Int.toNat_natCast, List.length_set]
    rw [w64 (n := 8 * (k : Int)) (by omega) (by omega), w64 (n := 8 * (k : Int) + 1) (by omega) (by omega), w64 (n := 0 - (8 * (k : Int) + 1)) (by omega) (by omega), w64 (n := 16 * ((2 * 2 ^ l : Nat) : Int)) (by omega) (by omega),
      show (0 : Int) - (8 * (k : Int) + 1) = -((8 * k + 1 : Nat) : Int) by omega, show 16 * ((2 * 2 ^ l : Nat) : Int) = ((16 * (2 * 2 ^ l) : Nat) : Int) by omega, t, e1, e2]
    simp only [Option.bind_some]
    rw [w64 (n := 0 - (tw N (-((8 * k + 1 : Nat) : Int)) ((16 * (2 * 2 ^ l) : Nat) : Int) (z'.getD k pz).1 (z'.getD k pz).2.1).2) (by unfold Bd at qb; omega) (by unfold Bd at qb; omega), show (0 : Int) - (tw N (-((8 * k + 1 : Nat) : Int)) ((16 * (2 * 2 ^ l) : Nat) : Int) (z'.getD k pz).1 (z'.getD k pz).2.1).2 = -(tw N (-((8 * k + 1 : Nat) : Int)) ((16 * (2 * 2 ^ l) : Nat) : Int) (z'.getD k pz).1 (z'.getD k pz).2.1).2 by omega]
    rfl) (s0 := ((((2 * 2 ^ l : Nat) : Int), ()), ((b, (u, ())), (((), ()), (((), ()), (z, (List.replicate (2 * 2 ^ l) 0, ()))))))) ⟨rfl, rfl, rfl, Ws.zero (by simp)⟩
  obtain ⟨⟨n', un⟩, ⟨b', u', ub⟩, uu, uu2, z', v, uv⟩ := s
  obtain ⟨s2, s3, s4, s5⟩ := h1
  simp only at s2 s3 s4 s5
  rw [s2, s3, s4, s5.all (fun j hj => ends_cover hj)] at h2
  have hstep := runL_step (fun (y : Int × ((Int × (Int × Unit)) × Unit)) o => f11r3d N y (o, ((), ((), ((), ((), ())))))) (tab (2 ^ l) (plc (2 ^ l))) ((((2 * 2 ^ l : Nat) : Int), ()), ((b, (u, ())), (((), ()), (((), ()), (z, (List.replicate (2 * 2 ^ l) 0, ()))))))
  rw [h2] at hstep
  unfold f11r3F
  rw [show (((), (((2 * 2 ^ l : Nat) : Int), ())) : Unit × (Int × Unit)).2.1 = ((2 * 2 ^ l : Nat) : Int) from rfl, i44_eq (by omega) hN]
  exact (congrArg (fun z => Option.bind z (finish f11r3p f11r3x)) hstep).trans rfl
/-! ### Errors and levels -/
def er1 (B : Int) (x : List Int) : Int := if (decide (2 ≤ (x.length : Int)) && szB 7 (x.length : Int)) = true then if x.all (inR B) = true then 0 else 6 else 1
def lv (n : Nat) : Nat := Nat.log2 n - 1
theorem lv_eq (l : Nat) : lv (2 ^ (l + 1)) = l := by unfold lv; rw [Nat.log2_two_pow]; omega
theorem size_of {n : Nat} (h : (decide (2 ≤ (n : Int)) && szB 7 (n : Int)) = true) : ∃ l, l ≤ 6 ∧ n = 2 ^ (l + 1) := by
  rw [Bool.and_eq_true] at h
  have h1 := of_decide_eq_true h.1
  obtain ⟨p, hp, e⟩ := szB_iff.1 h.2
  rcases Nat.eq_zero_or_pos p with rfl | h0
  · have : ((2 ^ 0 : Nat) : Int) = 1 := rfl
    omega
  · exact ⟨p - 1, by omega, by rw [show p - 1 + 1 = p by omega]; omega⟩
theorem er1_zero {B : Int} {x : List Int} (h : er1 B x = 0) : (∃ l, l ≤ 6 ∧ x.length = 2 ^ (l + 1)) ∧ x.all (inR B) = true := by
  unfold er1 at h
  by_cases h1 : (decide (2 ≤ (x.length : Int)) && szB 7 (x.length : Int)) = true
  · by_cases h2 : x.all (inR B) = true
    · exact ⟨size_of h1, h2⟩
    · rw [if_pos h1, if_neg h2] at h; omega
  · rw [if_neg h1] at h; omega
theorem size_le {n : Nat} (h : (decide (2 ≤ (n : Int)) && szB 7 (n : Int)) = true) : n ≤ 128 := by
  obtain ⟨l, hl, rfl⟩ := size_of h
  exact Nat.pow_le_pow_right (show 0 < 2 by omega) (show l + 1 ≤ 7 by omega)
theorem is_size (l : Nat) (hl : l ≤ 6) : (decide (2 ≤ ((2 ^ (l + 1) : Nat) : Int)) && szB 7 ((2 ^ (l + 1) : Nat) : Int)) = true := by
  have : 0 < 2 ^ l := Nat.pow_pos (by omega)
  rw [Bool.and_eq_true]
  refine ⟨decide_eq_true (by rw [Nat.pow_succ]; omega), szB_iff.2 ⟨l + 1, by omega, rfl⟩⟩
def resF (N : Nat) (x : List Int) : ((List Int) × Unit) × (Unit × (Int × Unit)) := (((if er1 1048576 x = 0 then fwd N (lv x.length) x else []), ()), ((), (er1 1048576 x, ())))
def resI (N : Nat) (x : List Int) : ((List Int) × Unit) × (Unit × (Int × Unit)) := (((if er1 33554432 x = 0 then inv N (lv x.length) x else []), ()), ((), (er1 33554432 x, ())))
theorem inR_mono {B C : Int} (h : B ≤ C) {x : List Int} (hx : x.all (inR B) = true) : x.all (inR C) = true := by
  rw [List.all_eq_true] at hx ⊢
  intro y hy
  have := inR_iff.1 (hx y hy)
  exact inR_iff.2 (by omega)
theorem it_fwd {l : Nat} (hl : l ≤ 6) : itS (2 * l) (gS 1099511627776) ≤ 1152921504606846976 := by
  have h1 := itS_le (S := gS 1099511627776) (by decide) (12 - 2 * l) (2 * l)
  rw [show 2 * l + (12 - 2 * l) = 12 by omega] at h1
  exact Int.le_trans h1 (by decide +kernel)
theorem it_inv {l : Nat} (hl : l ≤ 6) : itS (2 * l) (gS 1125899906842624) ≤ 18446744073709551616 := by
  have h1 := itS_le (S := gS 1125899906842624) (by decide) (12 - 2 * l) (2 * l)
  rw [show 2 * l + (12 - 2 * l) = 12 by omega] at h1
  exact Int.le_trans h1 (by decide +kernel)
theorem f11_eq {N : Nat} (hN : 2000 ≤ N) (x : List Int) : f11F N x = some (resF N x) := by
  unfold f11F resF er1
  rw [show (128 : Int) = ((2 ^ 7 : Nat) : Int) from rfl, f24_eq N (by omega) (by omega)]
  simp only [Option.bind_some]
  cases h1 : (decide (2 ≤ (x.length : Int)) && szB 7 (x.length : Int)) with
  | false => rfl
  | true =>
    have hle := size_le h1
    rw [f25_eq hN (by decide) (by decide) (by simp) (by simp; omega)]
    simp only [Bool.not_true, cond_false, Option.bind_some, List.all_cons, List.all_nil, Bool.and_true]
    cases h2 : x.all (inR 1048576) with
    | false => rfl
    | true =>
      obtain ⟨l, hl, hx⟩ := size_of h1
      have hp : 2 ^ l ≤ 2 ^ 6 := Nat.pow_le_pow_right (by omega) (by omega)
      have hpp : 2 ^ (l + 1) = 2 * 2 ^ l := by rw [Nat.pow_succ]; omega
      have hx2 : x.length = 2 * 2 ^ l := by omega
      have wh : IntKind.i64.wrap (Int.tdiv ((2 * 2 ^ l : Nat) : Int) 2) = ((2 ^ l : Nat) : Int) := by
        rw [Int.tdiv_eq_ediv_of_nonneg (by omega), w64 (by omega) (by omega)]; omega
      have sx := sqL_of (B := 1048576) (by decide) h2
      have sp := pre_sq (N := N) (by omega) hl (by decide) sx
      have sm := mix_sq (N := N) (by omega) (itS_pos (S := 1099511627776) (by decide) 1) l _ hl (pre_len N l x) sp
      have r1 := f11r1_eq hN hl hx2 (inR_mono (by decide) h2) false ((), ())
      have r2 := f29_eq hN false ((), ()) (itS_pos (S := 1099511627776) (by decide) 1) hl (pre_len N l x) sp (it_fwd hl)
      have r3 := f11r3_eq hN hl (mix_len N l _ (pre_len N l x)) (itS_pos (itS_pos (S := 1099511627776) (by decide) 1) (2 * l)) (it_fwd hl) sm false ((), ())
      have d1 : ((2 ^ l : Nat) : Int) * 16 ≤ 140737488355328 := by omega
      have d2 : (0 : Int) ≤ ((2 ^ l : Nat) : Int) := by omega
      have d3 : ((2 * 2 ^ l : Nat) : Int) * 8 ≤ 140737488355328 := by omega
      have d4 : (0 : Int) ≤ ((2 * 2 ^ l : Nat) : Int) := by omega
      simp only [hx2, wh, d1, d2, f26F, f27F, Bool.not_true, cond_false, Option.bind_some, beq_self_eq_true, decide_true, Bool.and_self, cond_true, Int.toNat_natCast, if_true]
      rw [r1]
      simp only [Option.bind_some]
      rw [r2]
      simp only [Option.bind_some, d3, d4, beq_self_eq_true, decide_true, Bool.and_self, cond_true, Int.toNat_natCast]
      rw [r3]
      simp only [Option.bind_some]
      rw [← hpp, lv_eq]
      rfl
theorem f14r1_eq {N : Nat} (hN : 2000 ≤ N) {l : Nat} (hl : l ≤ 6) {x : List Int} (hx : x.length = 2 * 2 ^ l) (hr : x.all (inR 4294967296) = true) (b : Bool) (u : Unit × Unit) :
    f14r1F N ((), (((2 * 2 ^ l : Nat) : Int), ())) x ((2 * 2 ^ l : Nat) : Int) b u (List.replicate (2 ^ l) pz) = some (((x, ()), ((((2 * 2 ^ l : Nat) : Int), ()), ((b, (u, ())), (((), ()), (preB N (2 ^ (l + 1)) x, ()))))), ()) := by
  have hp : 2 ^ l ≤ 2 ^ 6 := Nat.pow_le_pow_right (by omega) (by omega)
  have hpp : 2 ^ (l + 1) = 2 * 2 ^ l := by rw [Nat.pow_succ]; omega
  obtain ⟨g, hg⟩ : ∃ g : Nat → P2, g = fun k => pr (bk N (-((8 * k + 1 : Nat) : Int)) ((16 * (2 * 2 ^ l) : Nat) : Int) (x.getD (2 * k) 0) (-x.getD (2 * 2 ^ l - 1 - 2 * k) 0)) := ⟨_, rfl⟩
  have hpre : preB N (2 ^ (l + 1)) x = tab (2 ^ l) g := by unfold preB; rw [hpp, show 2 * 2 ^ l / 2 = 2 ^ l by omega, hg]
  obtain ⟨s, h1, h2⟩ := foldR_tab (m := 2 ^ l) (round := fun y o => f14r1d N y (o, ((), ((), ((), ((), ())))))) (plc (2 ^ l)) (fun k s => s.1 = (x, ()) ∧ s.2.1 = (((2 * 2 ^ l : Nat) : Int), ()) ∧ s.2.2.1 = (b, (u, ())) ∧ s.2.2.2.1 = ((), ()) ∧ Wr pz (2 ^ l) g k s.2.2.2.2.1)
    (fun k s => ((x, ()), ((((2 * 2 ^ l : Nat) : Int), ()), ((b, (u, ())), (((), ()), (s.2.2.2.2.1.set k (g k), ())))))) (fun k s hk hs => by
    obtain ⟨⟨x', ux⟩, ⟨n', un⟩, ⟨b', u', ub⟩, uu, v, uv⟩ := s
    obtain ⟨s1, s2, s3, s4, s5⟩ := hs
    simp only [Prod.mk.injEq] at s1 s2 s3
    obtain ⟨rfl, _⟩ := s1
    obtain ⟨rfl, _⟩ := s2
    obtain ⟨rfl, rfl, _⟩ := s3
    refine ⟨?_, rfl, rfl, rfl, rfl, s5.set hk⟩
    have c1 : ((2 * k : Nat) : Int) < (x'.length : Int) := by omega
    have c2 : ((2 * 2 ^ l - 1 - 2 * k : Nat) : Int) < (x'.length : Int) := by omega
    have hv := s5.1
    have c3 : (k : Int) < (v.length : Int) := by simp only at hv; omega
    obtain ⟨k1, k2⟩ := end_ok (n := 2 ^ (l + 1)) (k := k) rfl (by omega) (by omega)
    rw [hpp] at k1
    have m1 := List.all_eq_true.1 hr _ (getD_mem (d := 0) (show 2 * k < x'.length by omega))
    have m2 := inR_iff.1 (List.all_eq_true.1 hr _ (getD_mem (d := 0) (show 2 * 2 ^ l - 1 - 2 * k < x'.length by omega)))
    have t := bk_code (N := N) (by omega) (b', (u', ())) k1 k2 m1 (y := -x'.getD (2 * 2 ^ l - 1 - 2 * k) 0) (inR_iff.2 (by omega))
    simp only [f14r1d, f14r1c, plc, c1, c2, c3, show (0 : Int) ≤ ((2 * k : Nat) : Int) by omega, show (0 : Int) ≤ ((2 * 2 ^ l - 1 - 2 * k : Nat) : Int) by omega, show (0 : Int) ≤ (k : Int) by omega, decide_true, Bool.and_self, cond_true, Int.toNat_natCast]
    rw [w64 (n := 8 * (k : Int)) (by omega) (by omega), w64 (n := 8 * (k : Int) + 1) (by omega) (by omega), w64 (n := 0 - (8 * (k : Int) + 1)) (by omega) (by omega), w64 (n := 16 * ((2 * 2 ^ l : Nat) : Int)) (by omega) (by omega), w64 (n := 0 - x'.getD (2 * 2 ^ l - 1 - 2 * k) 0) (by omega) (by omega),
      show (0 : Int) - (8 * (k : Int) + 1) = -((8 * k + 1 : Nat) : Int) by omega, show 16 * ((2 * 2 ^ l : Nat) : Int) = ((16 * (2 * 2 ^ l) : Nat) : Int) by omega, show (0 : Int) - x'.getD (2 * 2 ^ l - 1 - 2 * k) 0 = -x'.getD (2 * 2 ^ l - 1 - 2 * k) 0 by omega, t, hg]
    rfl) (s0 := ((x, ()), ((((2 * 2 ^ l : Nat) : Int), ()), ((b, (u, ())), (((), ()), (List.replicate (2 ^ l) pz, ())))))) ⟨rfl, rfl, rfl, rfl, Wr.zero (by simp)⟩
  obtain ⟨⟨x', ux⟩, ⟨n', un⟩, ⟨b', u', ub⟩, uu, v, uv⟩ := s
  obtain ⟨s1, s2, s3, s4, s5⟩ := h1
  simp only at s1 s2 s3 s5
  rw [s1, s2, s3, s5.all, ← hpre] at h2
  have hstep := runL_step (fun (y : Int × ((Int × (Int × Unit)) × Unit)) o => f14r1d N y (o, ((), ((), ((), ((), ())))))) (tab (2 ^ l) (plc (2 ^ l))) ((x, ()), ((((2 * 2 ^ l : Nat) : Int), ()), ((b, (u, ())), (((), ()), (List.replicate (2 ^ l) pz, ())))))
  rw [h2] at hstep
  unfold f14r1F
  rw [show (((), (((2 * 2 ^ l : Nat) : Int), ())) : Unit × (Int × Unit)).2.1 = ((2 * 2 ^ l : Nat) : Int) from rfl, i44_eq (by omega) hN]
  exact (congrArg (fun z => Option.bind z (finish f14r1p f14r1x)) hstep).trans rfl
theorem f14r3_eq {N : Nat} (hN : 2000 ≤ N) {l : Nat} (hl : l ≤ 6) {z : List P2} (hz : z.length = 2 ^ l) {S : Int} (hS : 0 ≤ S) (hS2 : S ≤ 18446744073709551616) (sz : Sq S z) (b : Bool) (u : Unit × Unit) :
    f14r3F N ((), (((2 * 2 ^ l : Nat) : Int), ())) ((2 * 2 ^ l : Nat) : Int) b u z (List.replicate (2 * 2 ^ l) 0) = some (((((2 * 2 ^ l : Nat) : Int), ()), ((b, (u, ())), (((), ()), (((), ()), (z, (tab (2 ^ (l + 1)) (outB N (2 ^ (l + 1)) z), ())))))), ()) := by
  have hp : 2 ^ l ≤ 2 ^ 6 := Nat.pow_le_pow_right (by omega) (by omega)
  have hpp : 2 ^ (l + 1) = 2 * 2 ^ l := by rw [Nat.pow_succ]; omega
  rw [hpp]
  obtain ⟨g, hg⟩ : ∃ g : Nat → Int, g = outB N (2 * 2 ^ l) z := ⟨_, rfl⟩
  rw [← hg]
  obtain ⟨s, h1, h2⟩ := foldR_tab (m := 2 ^ l) (round := fun y o => f14r3d N y (o, ((), ((), ((), ((), ())))))) (plc (2 ^ l)) (fun k s => s.1 = (((2 * 2 ^ l : Nat) : Int), ()) ∧ s.2.1 = (b, (u, ())) ∧ s.2.2.2.2.1 = z ∧ Ws 0 (2 * 2 ^ l) (fun k => 2 * k) (fun k => 2 * 2 ^ l - 1 - 2 * k) g k s.2.2.2.2.2.1)
    (fun k s => ((((2 * 2 ^ l : Nat) : Int), ()), ((b, (u, ())), (((), ()), (((), ()), (z, ((s.2.2.2.2.2.1.set (2 * k) (g (2 * k))).set (2 * 2 ^ l - 1 - 2 * k) (g (2 * 2 ^ l - 1 - 2 * k)), ()))))))) (fun k s hk hs => by
    obtain ⟨⟨n', un⟩, ⟨b', u', ub⟩, uu, uu2, z', v, uv⟩ := s
    obtain ⟨s2, s3, s4, s5⟩ := hs
    simp only [Prod.mk.injEq] at s2 s3
    obtain ⟨rfl, _⟩ := s2
    obtain ⟨rfl, rfl, _⟩ := s3
    simp only at s4
    subst s4
    refine ⟨?_, rfl, rfl, rfl, s5.set (by omega) (by omega)⟩
    have hv := s5.1
    simp only at hv
    have c1 : ((2 * k : Nat) : Int) < (v.length : Int) := by omega
    have c2 : ((2 * 2 ^ l - 1 - 2 * k : Nat) : Int) < (v.length : Int) := by omega
    have c3 : (k : Int) < (z'.length : Int) := by omega
    obtain ⟨k1, k2⟩ := end_ok (n := 2 ^ (l + 1)) (k := k) rfl (by omega) (by omega)
    rw [hpp] at k1
    have t := bk_code (N := N) (by omega) (b', (u', ())) k1 k2 (in_of_sq (B := 4294967296) (by decide) (Int.le_trans (sz k).1 (by omega))) (in_of_sq (B := 4294967296) (by decide) (Int.le_trans (sz k).2 (by omega)))
    have e1 : g (2 * k) = (endB N (2 * 2 ^ l) z' k).1 := by rw [hg]; unfold outB; rw [if_pos (by omega), show 2 * k / 2 = k by omega]
    have e2 : g (2 * 2 ^ l - 1 - 2 * k) = (endB N (2 * 2 ^ l) z' k).2 := by rw [hg]; unfold outB; rw [if_neg (by omega), show (2 * 2 ^ l - 1 - (2 * 2 ^ l - 1 - 2 * k)) / 2 = k by omega]
    simp only [f14r3d, f14r3c, plc, c1, c2, c3, show (0 : Int) ≤ ((2 * k : Nat) : Int) by omega, show (0 : Int) ≤ ((2 * 2 ^ l - 1 - 2 * k : Nat) : Int) by omega, show (0 : Int) ≤ (k : Int) by omega, decide_true, Bool.and_self, cond_true, Int.toNat_natCast, List.length_set]
    rw [w64 (n := 8 * (k : Int)) (by omega) (by omega), w64 (n := 8 * (k : Int) + 1) (by omega) (by omega), w64 (n := 0 - (8 * (k : Int) + 1)) (by omega) (by omega), w64 (n := 16 * ((2 * 2 ^ l : Nat) : Int)) (by omega) (by omega),
      show (0 : Int) - (8 * (k : Int) + 1) = -((8 * k + 1 : Nat) : Int) by omega, show 16 * ((2 * 2 ^ l : Nat) : Int) = ((16 * (2 * 2 ^ l) : Nat) : Int) by omega, t, e1, e2]
    rfl) (s0 := ((((2 * 2 ^ l : Nat) : Int), ()), ((b, (u, ())), (((), ()), (((), ()), (z, (List.replicate (2 * 2 ^ l) 0, ()))))))) ⟨rfl, rfl, rfl, Ws.zero (by simp)⟩
  obtain ⟨⟨n', un⟩, ⟨b', u', ub⟩, uu, uu2, z', v, uv⟩ := s
  obtain ⟨s2, s3, s4, s5⟩ := h1
  simp only at s2 s3 s4 s5
  rw [s2, s3, s4, s5.all (fun j hj => ends_cover hj)] at h2
  have hstep := runL_step (fun (y : Int × ((Int × (Int × Unit)) × Unit)) o => f14r3d N y (o, ((), ((), ((), ((), ())))))) (tab (2 ^ l) (plc (2 ^ l))) ((((2 * 2 ^ l : Nat) : Int), ()), ((b, (u, ())), (((), ()), (((), ()), (z, (List.replicate (2 * 2 ^ l) 0, ()))))))
  rw [h2] at hstep
  unfold f14r3F
  rw [show (((), (((2 * 2 ^ l : Nat) : Int), ())) : Unit × (Int × Unit)).2.1 = ((2 * 2 ^ l : Nat) : Int) from rfl, i44_eq (by omega) hN]
  exact (congrArg (fun z => Option.bind z (finish f14r3p f14r3x)) hstep).trans rfl
theorem f14_eq {N : Nat} (hN : 2000 ≤ N) (x : List Int) : f14F N x = some (resI N x) := by
  unfold f14F resI er1
  rw [show (128 : Int) = ((2 ^ 7 : Nat) : Int) from rfl, f24_eq N (by omega) (by omega)]
  simp only [Option.bind_some]
  cases h1 : (decide (2 ≤ (x.length : Int)) && szB 7 (x.length : Int)) with
  | false => rfl
  | true =>
    have hle := size_le h1
    rw [f25_eq hN (by decide) (by decide) (by simp) (by simp; omega)]
    simp only [Bool.not_true, cond_false, Option.bind_some, List.all_cons, List.all_nil, Bool.and_true]
    cases h2 : x.all (inR 33554432) with
    | false => rfl
    | true =>
      obtain ⟨l, hl, hx⟩ := size_of h1
      have hp : 2 ^ l ≤ 2 ^ 6 := Nat.pow_le_pow_right (by omega) (by omega)
      have hpp : 2 ^ (l + 1) = 2 * 2 ^ l := by rw [Nat.pow_succ]; omega
      have hx2 : x.length = 2 * 2 ^ l := by omega
      have wh : IntKind.i64.wrap (Int.tdiv ((2 * 2 ^ l : Nat) : Int) 2) = ((2 ^ l : Nat) : Int) := by
        rw [Int.tdiv_eq_ediv_of_nonneg (by omega), w64 (by omega) (by omega)]; omega
      have sx := sqL_of (B := 33554432) (by decide) h2
      have sp := preB_sq (N := N) (by omega) hl (by decide) sx
      have sm := unmix_sq (N := N) (by omega) l _ _ (itS_pos (S := 1125899906842624) (by decide) 1) hl (preB_len N l x) sp
      have r1 := f14r1_eq hN hl hx2 (inR_mono (by decide) h2) true ((), ())
      have r2 := f33_eq hN true ((), ()) l N _ _ (itS_pos (S := 1125899906842624) (by decide) 1) hl (by omega) (preB_len N l x) sp (it_inv hl)
      have r3 := f14r3_eq hN hl (unmix_len N l _ (preB_len N l x)) (itS_pos (itS_pos (S := 1125899906842624) (by decide) 1) (2 * l)) (it_inv hl) sm true ((), ())
      have d1 : ((2 ^ l : Nat) : Int) * 16 ≤ 140737488355328 := by omega
      have d2 : (0 : Int) ≤ ((2 ^ l : Nat) : Int) := by omega
      have d3 : ((2 * 2 ^ l : Nat) : Int) * 8 ≤ 140737488355328 := by omega
      have d4 : (0 : Int) ≤ ((2 * 2 ^ l : Nat) : Int) := by omega
      simp only [hx2, wh, d1, d2, f32F, f27F, Bool.not_true, cond_false, Option.bind_some, beq_self_eq_true, decide_true, Bool.and_self, cond_true, Int.toNat_natCast, if_true]
      rw [r1]
      simp only [Option.bind_some]
      rw [r2]
      simp only [Option.bind_some, d3, d4, beq_self_eq_true, decide_true, Bool.and_self, cond_true, Int.toNat_natCast]
      rw [r3]
      simp only [Option.bind_some]
      rw [← hpp, lv_eq]
      rfl
end Go.Sh.c07

namespace Go.Sh.c07
open p06 (Bd inR inR_iff isQ isQ_iff sc fwT bkT Fac ofN OfOk of_ok fwT_grows bkT_grows sq0 le_of_sq sq_le)

theorem ends_at {N n k : Nat} (h : k < n / 2) : (endsOf N n).getD k Fz = ofN N (-((8 * k + 1 : Nat) : Int)) ((16 * n : Nat) : Int) := by unfold endsOf; rw [tab_getD h]
theorem ends_len (N n : Nat) : (endsOf N n).length = n / 2 := tab_len _ _
theorem f49l0_eq {N : Nat} (hN : 2000 ≤ N) {l : Nat} (hl : l ≤ 6) {x : List Int} (hx : x.length = 2 * 2 ^ l) {S : Int} (hS : S ≤ 1208925819614629174706176) (sx : SqL S x) (E : List (Int × (Int × (Int × Unit)))) (hE : E = endsOf N (2 * 2 ^ l)) (R : Int × ((List (Int × (Int × (Int × Unit)))) × (Int × (Int × (Int × Unit))))) :
    f49l0 N N E R.1 R.2.1 R.2.2.1 R.2.2.2.1 R.2.2.2.2.1 (List.replicate (2 ^ l) 0) (List.replicate (2 ^ l) 0) x ((2 * 2 ^ l : Nat) : Int) ((2 ^ l : Nat) : Int) 0 = some (((E, R), (re (preF N (2 ^ (l + 1)) x), (im (preF N (2 ^ (l + 1)) x), ()))), ((), ((), ()))) := by
  have hp : 2 ^ l ≤ 2 ^ 6 := Nat.pow_le_pow_right (by omega) (by omega)
  have hpp : 2 ^ (l + 1) = 2 * 2 ^ l := by rw [Nat.pow_succ]; omega
  obtain ⟨g, hg⟩ : ∃ g : Nat → P2, g = fun k => pr (tw N (-((8 * k + 1 : Nat) : Int)) ((16 * (2 * 2 ^ l) : Nat) : Int) (x.getD (2 * k) 0) (x.getD (2 * 2 ^ l - 1 - 2 * k) 0)) := ⟨_, rfl⟩
  have hpre : preF N (2 ^ (l + 1)) x = tab (2 ^ l) g := by unfold preF; rw [hpp, show 2 * 2 ^ l / 2 = 2 ^ l by omega, hg]
  rw [hpre, re_tab, im_tab]
  obtain ⟨s, h1, h2⟩ := idx_loop (m := 2 ^ l) (f := fun n (s : List Int × List Int) k => f49l0 N n E R.1 R.2.1 R.2.2.1 R.2.2.2.1 R.2.2.2.2.1 s.1 s.2 x ((2 * 2 ^ l : Nat) : Int) ((2 ^ l : Nat) : Int) (k : Int)) (fun k s => Wr 0 (2 ^ l) (fun k => (g k).1) k s.1 ∧ Wr 0 (2 ^ l) (fun k => (g k).2.1) k s.2)
    (fun k s => (s.1.set k (g k).1, s.2.set k (g k).2.1)) (fin := fun s => some (((E, R), (s.1, (s.2, ()))), ((), ((), ())))) (fun n k s hk hw => by
    refine ⟨?_, hw.1.set hk, hw.2.set hk⟩
    obtain ⟨k1, k2⟩ := end_ok (n := 2 ^ (l + 1)) (k := k) rfl (by omega) (by omega)
    rw [hpp] at k1
    have t := tw_ref (N := N) (by omega) k1 k2 (bd_sq (B := 1099511627776) (by decide) (Int.le_trans (sx (2 * k)) hS)) (bd_sq (by decide) (Int.le_trans (sx (2 * 2 ^ l - 1 - 2 * k)) hS))
    have hs1 := hw.1.1; have hs2 := hw.2.1
    have w1 : IntKind.i64.wrap (2 * (k : Int)) = ((2 * k : Nat) : Int) := by rw [w64 (by omega) (by omega)]; omega
    have w2 : IntKind.i64.wrap (IntKind.i64.wrap (((2 * 2 ^ l : Nat) : Int) - 1) - ((2 * k : Nat) : Int)) = ((2 * 2 ^ l - 1 - 2 * k : Nat) : Int) := by
      rw [w64 (n := ((2 * 2 ^ l : Nat) : Int) - 1) (by omega) (by omega), w64 (by omega) (by omega)]; omega
    have hEl : E.length = 2 ^ l := by rw [hE, ends_len]; omega
    have hEk : E.getD k (0, (0, (0, ()))) = ofN N (-((8 * k + 1 : Nat) : Int)) ((16 * (2 * 2 ^ l) : Nat) : Int) := by rw [hE]; exact ends_at (by omega)
    simp only [f49l0, w1, w2, show (k : Int) < ((2 ^ l : Nat) : Int) by omega, show (0 : Int) ≤ (k : Int) by omega, show (k : Int) < (E.length : Int) by omega, show (0 : Int) ≤ ((2 * k : Nat) : Int) by omega, show ((2 * k : Nat) : Int) < (x.length : Int) by omega,
      show (0 : Int) ≤ ((2 * 2 ^ l - 1 - 2 * k : Nat) : Int) by omega, show ((2 * 2 ^ l - 1 - 2 * k : Nat) : Int) < (x.length : Int) by omega, show (k : Int) < (s.1.length : Int) by omega, show (k : Int) < (s.2.length : Int) by omega, decide_true, Bool.and_self, cond_true, Int.toNat_natCast, hEk, t, Option.bind_some]
    rw [w64s k (by omega), bindS, hg]
    rfl) (fun n s _ => by
    have c1 : ¬ ((2 ^ l : Nat) : Int) < ((2 ^ l : Nat) : Int) := by omega
    simp only [f49l0, c1, decide_false, cond_false]) (N := N) (by omega) (s0 := (List.replicate (2 ^ l) 0, List.replicate (2 ^ l) 0)) ⟨Wr.zero (by simp), Wr.zero (by simp)⟩
  rw [h1.1.all, h1.2.all] at h2
  exact h2
theorem f49l2_eq {N : Nat} (hN : 2000 ≤ N) {l : Nat} (hl : l ≤ 6) {z : List P2} (hz : z.length = 2 ^ l) {S : Int} (hS : 0 ≤ S) (hS2 : gS S ≤ 1208925819614629174706176) (sz : Sq S z) (E : List (Int × (Int × (Int × Unit)))) (hE : E = endsOf N (2 * 2 ^ l)) (R : Int × ((List (Int × (Int × (Int × Unit)))) × (Int × (Int × (Int × Unit))))) :
    f49l2 N N E R.1 R.2.1 R.2.2.1 R.2.2.2.1 R.2.2.2.2.1 (List.replicate (2 * 2 ^ l) 0) ((2 * 2 ^ l : Nat) : Int) (re z) (im z) ((2 ^ l : Nat) : Int) 0 = some (((E, R), (tab (2 ^ (l + 1)) (outF N (2 ^ (l + 1)) z), ())), ((), ())) := by
  have hp : 2 ^ l ≤ 2 ^ 6 := Nat.pow_le_pow_right (by omega) (by omega)
  have hpp : 2 ^ (l + 1) = 2 * 2 ^ l := by rw [Nat.pow_succ]; omega
  have hSS := gS_le hS
  rw [hpp]
  obtain ⟨g, hg⟩ : ∃ g : Nat → Int, g = outF N (2 * 2 ^ l) z := ⟨_, rfl⟩
  rw [← hg]
  obtain ⟨s, h1, h2⟩ := idx_loop (m := 2 ^ l) (f := fun n (s : List Int) k => f49l2 N n E R.1 R.2.1 R.2.2.1 R.2.2.2.1 R.2.2.2.2.1 s ((2 * 2 ^ l : Nat) : Int) (re z) (im z) ((2 ^ l : Nat) : Int) (k : Int)) (fun k s => Ws 0 (2 * 2 ^ l) (fun k => 2 * k) (fun k => 2 * 2 ^ l - 1 - 2 * k) g k s)
    (fun k s => (s.set (2 * k) (g (2 * k))).set (2 * 2 ^ l - 1 - 2 * k) (g (2 * 2 ^ l - 1 - 2 * k))) (fin := fun s => some (((E, R), (s, ())), ((), ()))) (fun n k s hk hw => by
    refine ⟨?_, hw.set (by omega) (by omega)⟩
    obtain ⟨k1, k2⟩ := end_ok (n := 2 ^ (l + 1)) (k := k) rfl (by omega) (by omega)
    rw [hpp] at k1
    have t := tw_ref (N := N) (by omega) k1 k2 (bd_sq (B := 1099511627776) (by decide) (Int.le_trans (sz k).1 (by omega))) (bd_sq (by decide) (Int.le_trans (sz k).2 (by omega)))
    have q := tw_sq (N := N) (by omega) k1 k2 (sz k).1 (sz k).2
    have qb : Bd 1099511627776 _ := bd_sq (by decide) (Int.le_trans q.2 hS2)
    have hs1 := hw.1
    have w1 : IntKind.i64.wrap (2 * (k : Int)) = ((2 * k : Nat) : Int) := by rw [w64 (by omega) (by omega)]; omega
    have w2 : IntKind.i64.wrap (IntKind.i64.wrap (((2 * 2 ^ l : Nat) : Int) - 1) - ((2 * k : Nat) : Int)) = ((2 * 2 ^ l - 1 - 2 * k : Nat) : Int) := by
      rw [w64 (n := ((2 * 2 ^ l : Nat) : Int) - 1) (by omega) (by omega), w64 (by omega) (by omega)]; omega
    have hEl : E.length = 2 ^ l := by rw [hE, ends_len]; omega
    have hEk : E.getD k (0, (0, (0, ()))) = ofN N (-((8 * k + 1 : Nat) : Int)) ((16 * (2 * 2 ^ l) : Nat) : Int) := by rw [hE]; exact ends_at (by omega)
    have e1 : g (2 * k) = (endF N (2 * 2 ^ l) z k).1 := by rw [hg]; unfold outF; rw [if_pos (by omega), show 2 * k / 2 = k by omega]
    have e2 : g (2 * 2 ^ l - 1 - 2 * k) = -(endF N (2 * 2 ^ l) z k).2 := by rw [hg]; unfold outF; rw [if_neg (by omega), show (2 * 2 ^ l - 1 - (2 * 2 ^ l - 1 - 2 * k)) / 2 = k by omega]
    have n1 : IntKind.i64.wrap (0 - (tw N (-((8 * k + 1 : Nat) : Int)) ((16 * (2 * 2 ^ l) : Nat) : Int) (z.getD k pz).1 (z.getD k pz).2.1).2) = -(tw N (-((8 * k + 1 : Nat) : Int)) ((16 * (2 * 2 ^ l) : Nat) : Int) (z.getD k pz).1 (z.getD k pz).2.1).2 := by
      rw [w64 (by unfold Bd at qb; omega) (by unfold Bd at qb; omega)]; omega
    simp only [f49l2, w1, w2, show (k : Int) < ((2 ^ l : Nat) : Int) by omega, show (0 : Int) ≤ (k : Int) by omega, show (k : Int) < (E.length : Int) by omega, show (k : Int) < (((re z).length : Nat) : Int) by rw [re_len]; omega, show (k : Int) < (((im z).length : Nat) : Int) by rw [im_len]; omega, show (0 : Int) ≤ ((2 * k : Nat) : Int) by omega, show ((2 * k : Nat) : Int) < (s.length : Int) by omega,
      show (0 : Int) ≤ ((2 * 2 ^ l - 1 - 2 * k : Nat) : Int) by omega, show ((2 * 2 ^ l - 1 - 2 * k : Nat) : Int) < (s.length : Int) by omega, decide_true, Bool.and_self, cond_true, Int.toNat_natCast, hEk, re_at z (show k < z.length by omega), im_at z (show k < z.length by omega), t, Option.bind_some, List.length_set, n1, e1, e2]
    rw [w64s k (by omega), bindS]
    rfl) (fun n s _ => by
    have c1 : ¬ ((2 ^ l : Nat) : Int) < ((2 ^ l : Nat) : Int) := by omega
    simp only [f49l2, c1, decide_false, cond_false]) (N := N) (by omega) (s0 := List.replicate (2 * 2 ^ l) 0) (Ws.zero (by simp))
  rw [h1.all (fun j hj => ends_cover hj)] at h2
  exact h2
theorem f31_eq {N : Nat} (hN : 2000 ≤ N) {l : Nat} (hl : l ≤ 6) {x : List Int} (hx : x.length = 2 * 2 ^ l) (hr : x.all (inR 1048576) = true) : f31F N x = some ((fwd N l x, ()), ((), ())) := by
  have hp : 2 ^ l ≤ 2 ^ 6 := Nat.pow_le_pow_right (by omega) (by omega)
  have hpp : 2 ^ (l + 1) = 2 * 2 ^ l := by rw [Nat.pow_succ]; omega
  have wh : IntKind.i64.wrap (Int.tdiv ((2 * 2 ^ l : Nat) : Int) 2) = ((2 ^ l : Nat) : Int) := by
    rw [Int.tdiv_eq_ediv_of_nonneg (by omega), w64 (by omega) (by omega)]; omega
  have sx := sqL_of (B := 1048576) (by decide) hr
  have sp := pre_sq (N := N) (by omega) hl (by decide) sx
  have sm := mix_sq (N := N) (by omega) (itS_pos (S := 1099511627776) (by decide) 1) l _ hl (pre_len N l x) sp
  have hit := it_fwd hl
  have r1 := f49l0_eq hN hl hx (by decide) sx (endsOf N (2 * 2 ^ l)) rfl (rowsOf N (2 ^ l))
  have r2 := f38_eq hN hl (itS_pos (S := 1099511627776) (by decide) 1) l N _ (Nat.le_refl l) (by omega) (pre_len N l x) sp (Int.le_trans hit (by decide))
  have r3 := f49l2_eq hN hl (mix_len N l _ (pre_len N l x)) (itS_pos (itS_pos (S := 1099511627776) (by decide) 1) (2 * l)) (by
    show gS (itS (2 * l) (gS 1099511627776)) ≤ _
    have := hit
    unfold gS at this ⊢; omega) sm (endsOf N (2 * 2 ^ l)) rfl (rowsOf N (2 ^ l))
  have hplan : planOf N (2 * 2 ^ l) = (endsOf N (2 * 2 ^ l), rowsOf N (2 ^ l)) := by unfold planOf; rw [show 2 * 2 ^ l / 2 = 2 ^ l by omega]
  have hrw : ∀ R : Int × ((List (Int × (Int × (Int × Unit)))) × (Int × (Int × (Int × Unit)))), (R.1, (R.2.1, (R.2.2.1, (R.2.2.2.1, (R.2.2.2.2.1, ()))))) = R := fun R => rfl
  have d1 : ((2 ^ l : Nat) : Int) * 8 ≤ 140737488355328 := by omega
  have d2 : (0 : Int) ≤ ((2 ^ l : Nat) : Int) := by omega
  have d3 : ((2 * 2 ^ l : Nat) : Int) * 8 ≤ 140737488355328 := by omega
  have d4 : (0 : Int) ≤ ((2 * 2 ^ l : Nat) : Int) := by omega
  unfold f31F f49F
  rw [hx, f48_eq hN (n := 2 * 2 ^ l) hpp.symm hl, hplan]
  simp only [Option.bind_some, wh, d1, d2, d3, d4, beq_self_eq_true, decide_true, Bool.and_self, cond_true, Int.toNat_natCast]
  rw [r1]
  simp only [Option.bind_some]
  rw [hrw, r2]
  simp only [Option.bind_some]
  rw [r3]
  rfl
theorem f12_eq {N : Nat} (hN : 2000 ≤ N) (x : List Int) : f12F N x = some (resF N x) := by
  unfold f12F resF er1
  rw [f22_eq (by omega)]
  simp only [Option.bind_some]
  cases h1 : (decide (2 ≤ (x.length : Int)) && szB 7 (x.length : Int)) with
  | false => rfl
  | true =>
    have hle := size_le h1
    rw [f30_eq (by decide) (by decide) (by omega) (by omega)]
    simp only [Bool.not_true, cond_false, Option.bind_some]
    cases h2 : x.all (inR 1048576) with
    | false => rfl
    | true =>
      obtain ⟨l, hl, hx⟩ := size_of h1
      have hpp : 2 ^ (l + 1) = 2 * 2 ^ l := by rw [Nat.pow_succ]; omega
      rw [f31_eq hN hl (by omega) h2, hx, lv_eq]
      rfl
theorem f51l0_eq {N : Nat} (hN : 2000 ≤ N) {l : Nat} (hl : l ≤ 6) {x : List Int} (hx : x.length = 2 * 2 ^ l) {S : Int} (hS : S ≤ 1208925819614629174706176) (sx : SqL S x) (E : List (Int × (Int × (Int × Unit)))) (hE : E = endsOf N (2 * 2 ^ l)) (R : Int × ((List (Int × (Int × (Int × Unit)))) × (Int × (Int × (Int × Unit))))) :
    f51l0 N N E R.1 R.2.1 R.2.2.1 R.2.2.2.1 R.2.2.2.2.1 (List.replicate (2 ^ l) 0) (List.replicate (2 ^ l) 0) x ((2 * 2 ^ l : Nat) : Int) ((2 ^ l : Nat) : Int) 0 = some (((E, R), (re (preB N (2 ^ (l + 1)) x), (im (preB N (2 ^ (l + 1)) x), ()))), ((), ((), ()))) := by
  have hp : 2 ^ l ≤ 2 ^ 6 := Nat.pow_le_pow_right (by omega) (by omega)
  have hpp : 2 ^ (l + 1) = 2 * 2 ^ l := by rw [Nat.pow_succ]; omega
  obtain ⟨g, hg⟩ : ∃ g : Nat → P2, g = fun k => pr (bk N (-((8 * k + 1 : Nat) : Int)) ((16 * (2 * 2 ^ l) : Nat) : Int) (x.getD (2 * k) 0) (-x.getD (2 * 2 ^ l - 1 - 2 * k) 0)) := ⟨_, rfl⟩
  have hpre : preB N (2 ^ (l + 1)) x = tab (2 ^ l) g := by unfold preB; rw [hpp, show 2 * 2 ^ l / 2 = 2 ^ l by omega, hg]
  rw [hpre, re_tab, im_tab]
  obtain ⟨s, h1, h2⟩ := idx_loop (m := 2 ^ l) (f := fun n (s : List Int × List Int) k => f51l0 N n E R.1 R.2.1 R.2.2.1 R.2.2.2.1 R.2.2.2.2.1 s.1 s.2 x ((2 * 2 ^ l : Nat) : Int) ((2 ^ l : Nat) : Int) (k : Int)) (fun k s => Wr 0 (2 ^ l) (fun k => (g k).1) k s.1 ∧ Wr 0 (2 ^ l) (fun k => (g k).2.1) k s.2)
    (fun k s => (s.1.set k (g k).1, s.2.set k (g k).2.1)) (fin := fun s => some (((E, R), (s.1, (s.2, ()))), ((), ((), ())))) (fun n k s hk hw => by
    refine ⟨?_, hw.1.set hk, hw.2.set hk⟩
    obtain ⟨k1, k2⟩ := end_ok (n := 2 ^ (l + 1)) (k := k) rfl (by omega) (by omega)
    rw [hpp] at k1
    have z2 : Bd 1099511627776 (x.getD (2 * 2 ^ l - 1 - 2 * k) 0) := bd_sq (by decide) (Int.le_trans (sx (2 * 2 ^ l - 1 - 2 * k)) hS)
    have t := bk_ref (N := N) (by omega) k1 k2 (bd_sq (B := 1099511627776) (by decide) (Int.le_trans (sx (2 * k)) hS)) (y := -x.getD (2 * 2 ^ l - 1 - 2 * k) 0) (by unfold Bd at *; omega)
    have n1 : IntKind.i64.wrap (0 - x.getD (2 * 2 ^ l - 1 - 2 * k) 0) = -x.getD (2 * 2 ^ l - 1 - 2 * k) 0 := by rw [w64 (by unfold Bd at z2; omega) (by unfold Bd at z2; omega)]; omega
    have hs1 := hw.1.1; have hs2 := hw.2.1
    have w1 : IntKind.i64.wrap (2 * (k : Int)) = ((2 * k : Nat) : Int) := by rw [w64 (by omega) (by omega)]; omega
    have w2 : IntKind.i64.wrap (IntKind.i64.wrap (((2 * 2 ^ l : Nat) : Int) - 1) - ((2 * k : Nat) : Int)) = ((2 * 2 ^ l - 1 - 2 * k : Nat) : Int) := by
      rw [w64 (n := ((2 * 2 ^ l : Nat) : Int) - 1) (by omega) (by omega), w64 (by omega) (by omega)]; omega
    have hEl : E.length = 2 ^ l := by rw [hE, ends_len]; omega
    have hEk : E.getD k (0, (0, (0, ()))) = ofN N (-((8 * k + 1 : Nat) : Int)) ((16 * (2 * 2 ^ l) : Nat) : Int) := by rw [hE]; exact ends_at (by omega)
    simp only [f51l0, w1, w2, show (k : Int) < ((2 ^ l : Nat) : Int) by omega, show (0 : Int) ≤ (k : Int) by omega, show (k : Int) < (E.length : Int) by omega, show (0 : Int) ≤ ((2 * k : Nat) : Int) by omega, show ((2 * k : Nat) : Int) < (x.length : Int) by omega,
      show (0 : Int) ≤ ((2 * 2 ^ l - 1 - 2 * k : Nat) : Int) by omega, show ((2 * 2 ^ l - 1 - 2 * k : Nat) : Int) < (x.length : Int) by omega, show (k : Int) < (s.1.length : Int) by omega, show (k : Int) < (s.2.length : Int) by omega, decide_true, Bool.and_self, cond_true, Int.toNat_natCast, hEk, n1, t, Option.bind_some]
    rw [w64s k (by omega), bindS, hg]
    rfl) (fun n s _ => by
    have c1 : ¬ ((2 ^ l : Nat) : Int) < ((2 ^ l : Nat) : Int) := by omega
    simp only [f51l0, c1, decide_false, cond_false]) (N := N) (by omega) (s0 := (List.replicate (2 ^ l) 0, List.replicate (2 ^ l) 0)) ⟨Wr.zero (by simp), Wr.zero (by simp)⟩
  rw [h1.1.all, h1.2.all] at h2
  exact h2
theorem f51l2_eq {N : Nat} (hN : 2000 ≤ N) {l : Nat} (hl : l ≤ 6) {z : List P2} (hz : z.length = 2 ^ l) {S : Int} (hS : 0 ≤ S) (hS2 : S ≤ 1208925819614629174706176) (sz : Sq S z) (E : List (Int × (Int × (Int × Unit)))) (hE : E = endsOf N (2 * 2 ^ l)) (R : Int × ((List (Int × (Int × (Int × Unit)))) × (Int × (Int × (Int × Unit))))) :
    f51l2 N N E R.1 R.2.1 R.2.2.1 R.2.2.2.1 R.2.2.2.2.1 (List.replicate (2 * 2 ^ l) 0) ((2 * 2 ^ l : Nat) : Int) (re z) (im z) ((2 ^ l : Nat) : Int) 0 = some (((E, R), (tab (2 ^ (l + 1)) (outB N (2 ^ (l + 1)) z), ())), ((), ())) := by
  have hp : 2 ^ l ≤ 2 ^ 6 := Nat.pow_le_pow_right (by omega) (by omega)
  have hpp : 2 ^ (l + 1) = 2 * 2 ^ l := by rw [Nat.pow_succ]; omega
  rw [hpp]
  obtain ⟨g, hg⟩ : ∃ g : Nat → Int, g = outB N (2 * 2 ^ l) z := ⟨_, rfl⟩
  rw [← hg]
  obtain ⟨s, h1, h2⟩ := idx_loop (m := 2 ^ l) (f := fun n (s : List Int) k => f51l2 N n E R.1 R.2.1 R.2.2.1 R.2.2.2.1 R.2.2.2.2.1 s ((2 * 2 ^ l : Nat) : Int) (re z) (im z) ((2 ^ l : Nat) : Int) (k : Int)) (fun k s => Ws 0 (2 * 2 ^ l) (fun k => 2 * k) (fun k => 2 * 2 ^ l - 1 - 2 * k) g k s)
    (fun k s => (s.set (2 * k) (g (2 * k))).set (2 * 2 ^ l - 1 - 2 * k) (g (2 * 2 ^ l - 1 - 2 * k))) (fin := fun s => some (((E, R), (s, ())), ((), ()))) (fun n k s hk hw => by
    refine ⟨?_, hw.set (by omega) (by omega)⟩
    obtain ⟨k1, k2⟩ := end_ok (n := 2 ^ (l + 1)) (k := k) rfl (by omega) (by omega)
    rw [hpp] at k1
    have t := bk_ref (N := N) (by omega) k1 k2 (bd_sq (B := 1099511627776) (by decide) (Int.le_trans (sz k).1 (by omega))) (bd_sq (by decide) (Int.le_trans (sz k).2 (by omega)))
    have hs1 := hw.1
    have w1 : IntKind.i64.wrap (2 * (k : Int)) = ((2 * k : Nat) : Int) := by rw [w64 (by omega) (by omega)]; omega
    have w2 : IntKind.i64.wrap (IntKind.i64.wrap (((2 * 2 ^ l : Nat) : Int) - 1) - ((2 * k : Nat) : Int)) = ((2 * 2 ^ l - 1 - 2 * k : Nat) : Int) := by
      rw [w64 (n := ((2 * 2 ^ l : Nat) : Int) - 1) (by omega) (by omega), w64 (by omega) (by omega)]; omega
    have hEl : E.length = 2 ^ l := by rw [hE, ends_len]; omega
    have hEk : E.getD k (0, (0, (0, ()))) = ofN N (-((8 * k + 1 : Nat) : Int)) ((16 * (2 * 2 ^ l) : Nat) : Int) := by rw [hE]; exact ends_at (by omega)
    have e1 : g (2 * k) = (endB N (2 * 2 ^ l) z k).1 := by rw [hg]; unfold outB; rw [if_pos (by omega), show 2 * k / 2 = k by omega]
    have e2 : g (2 * 2 ^ l - 1 - 2 * k) = (endB N (2 * 2 ^ l) z k).2 := by rw [hg]; unfold outB; rw [if_neg (by omega), show (2 * 2 ^ l - 1 - (2 * 2 ^ l - 1 - 2 * k)) / 2 = k by omega]
    simp only [f51l2, w1, w2, show (k : Int) < ((2 ^ l : Nat) : Int) by omega, show (0 : Int) ≤ (k : Int) by omega, show (k : Int) < (E.length : Int) by omega, show (k : Int) < (((re z).length : Nat) : Int) by rw [re_len]; omega, show (k : Int) < (((im z).length : Nat) : Int) by rw [im_len]; omega, show (0 : Int) ≤ ((2 * k : Nat) : Int) by omega, show ((2 * k : Nat) : Int) < (s.length : Int) by omega,
      show (0 : Int) ≤ ((2 * 2 ^ l - 1 - 2 * k : Nat) : Int) by omega, show ((2 * 2 ^ l - 1 - 2 * k : Nat) : Int) < (s.length : Int) by omega, decide_true, Bool.and_self, cond_true, Int.toNat_natCast, hEk, re_at z (show k < z.length by omega), im_at z (show k < z.length by omega), t, Option.bind_some, List.length_set, e1, e2]
    rw [w64s k (by omega), bindS]
    rfl) (fun n s _ => by
    have c1 : ¬ ((2 ^ l : Nat) : Int) < ((2 ^ l : Nat) : Int) := by omega
    simp only [f51l2, c1, decide_false, cond_false]) (N := N) (by omega) (s0 := List.replicate (2 * 2 ^ l) 0) (Ws.zero (by simp))
  rw [h1.all (fun j hj => ends_cover hj)] at h2
  exact h2
theorem f34_eq {N : Nat} (hN : 2000 ≤ N) {l : Nat} (hl : l ≤ 6) {x : List Int} (hx : x.length = 2 * 2 ^ l) (hr : x.all (inR 33554432) = true) : f34F N x = some ((inv N l x, ()), ((), ())) := by
  have hp : 2 ^ l ≤ 2 ^ 6 := Nat.pow_le_pow_right (by omega) (by omega)
  have hpp : 2 ^ (l + 1) = 2 * 2 ^ l := by rw [Nat.pow_succ]; omega
  have wh : IntKind.i64.wrap (Int.tdiv ((2 * 2 ^ l : Nat) : Int) 2) = ((2 ^ l : Nat) : Int) := by
    rw [Int.tdiv_eq_ediv_of_nonneg (by omega), w64 (by omega) (by omega)]; omega
  have sx := sqL_of (B := 33554432) (by decide) hr
  have sp := preB_sq (N := N) (by omega) hl (by decide) sx
  have sm := unmix_sq (N := N) (by omega) l _ _ (itS_pos (S := 1125899906842624) (by decide) 1) hl (preB_len N l x) sp
  have hit := it_inv hl
  have r1 := f51l0_eq hN hl hx (by decide) sx (endsOf N (2 * 2 ^ l)) rfl (rowsOf N (2 ^ l))
  have r2 := f39_eq hN hl l N _ _ (itS_pos (S := 1125899906842624) (by decide) 1) (Nat.le_refl l) (by omega) (preB_len N l x) sp (Int.le_trans hit (by decide))
  have r3 := f51l2_eq hN hl (unmix_len N l _ (preB_len N l x)) (itS_pos (itS_pos (S := 1125899906842624) (by decide) 1) (2 * l)) (Int.le_trans hit (by decide)) sm (endsOf N (2 * 2 ^ l)) rfl (rowsOf N (2 ^ l))
  have hplan : planOf N (2 * 2 ^ l) = (endsOf N (2 * 2 ^ l), rowsOf N (2 ^ l)) := by unfold planOf; rw [show 2 * 2 ^ l / 2 = 2 ^ l by omega]
  have hrw : ∀ R : Int × ((List (Int × (Int × (Int × Unit)))) × (Int × (Int × (Int × Unit)))), (R.1, (R.2.1, (R.2.2.1, (R.2.2.2.1, (R.2.2.2.2.1, ()))))) = R := fun R => rfl
  have d1 : ((2 ^ l : Nat) : Int) * 8 ≤ 140737488355328 := by omega
  have d2 : (0 : Int) ≤ ((2 ^ l : Nat) : Int) := by omega
  have d3 : ((2 * 2 ^ l : Nat) : Int) * 8 ≤ 140737488355328 := by omega
  have d4 : (0 : Int) ≤ ((2 * 2 ^ l : Nat) : Int) := by omega
  unfold f34F f51F
  rw [hx, f48_eq hN (n := 2 * 2 ^ l) hpp.symm hl, hplan]
  simp only [Option.bind_some, wh, d1, d2, d3, d4, beq_self_eq_true, decide_true, Bool.and_self, cond_true, Int.toNat_natCast]
  rw [r1]
  simp only [Option.bind_some]
  rw [hrw, r2]
  simp only [Option.bind_some]
  rw [r3]
  rfl
theorem f15_eq {N : Nat} (hN : 2000 ≤ N) (x : List Int) : f15F N x = some (resI N x) := by
  unfold f15F resI er1
  rw [f22_eq (by omega)]
  simp only [Option.bind_some]
  cases h1 : (decide (2 ≤ (x.length : Int)) && szB 7 (x.length : Int)) with
  | false => rfl
  | true =>
    have hle := size_le h1
    rw [f30_eq (by decide) (by decide) (by omega) (by omega)]
    simp only [Bool.not_true, cond_false, Option.bind_some]
    cases h2 : x.all (inR 33554432) with
    | false => rfl
    | true =>
      obtain ⟨l, hl, hx⟩ := size_of h1
      have hpp : 2 ^ (l + 1) = 2 * 2 ^ l := by rw [Nat.pow_succ]; omega
      rw [f34_eq hN hl (by omega) h2, hx, lv_eq]
      rfl
end Go.Sh.c07

namespace Go.Sh.c07
open p06 (Bd inR inR_iff isQ isQ_iff sc fwT bkT Fac ofN OfOk of_ok fwT_grows bkT_grows sq0 le_of_sq sq_le)

def zp (a b : List Int) : List P2 := tab a.length fun k => (a.getD k 0, (b.getD k 0, ()))
theorem zp_len (a b : List Int) : (zp a b).length = a.length := tab_len _ _
theorem re_zp (a b : List Int) : re (zp a b) = a := by unfold zp; rw [re_tab]; exact tab_self 0 a
theorem im_zp {a b : List Int} (h : a.length = b.length) : im (zp a b) = b := by unfold zp; rw [im_tab, h]; exact tab_self 0 b
theorem zp_re_im (z : List P2) : zp (re z) (im z) = z := by
  unfold zp
  rw [re_len]
  refine (eq_tab pz rfl fun k hk => ?_).symm
  rw [re_at z hk, im_at z hk]
theorem f35l1_eq {N : Nat} {a b : List Int} (hl : a.length ≤ 1000) (h : a.length = b.length) (hN : 2000 ≤ N) : f35l1 N N (List.replicate a.length pz) a b (a.length : Int) 0 = some ((zp a b, ()), ((), ())) := by
  obtain ⟨s, h1, h2⟩ := idx_loop (m := a.length) (f := fun n (s : List P2) k => f35l1 N n s a b (a.length : Int) (k : Int)) (fun k s => Wr pz a.length (fun k => (a.getD k 0, (b.getD k 0, ()))) k s) (fun k s => s.set k (a.getD k 0, (b.getD k 0, ()))) (fin := fun s => some ((s, ()), ((), ()))) (fun n k s hk hw => by
    refine ⟨?_, hw.set hk⟩
    have hs := hw.1
    simp only [f35l1, show (0 : Int) ≤ (k : Int) by omega, show (k : Int) < (a.length : Int) by omega, show (k : Int) < (b.length : Int) by omega, show (k : Int) < (s.length : Int) by omega, decide_true, Bool.and_self, cond_true, Int.toNat_natCast]
    rw [w64s k (by omega), bindS]) (fun n s _ => by
    have c1 : ¬ (a.length : Int) < (a.length : Int) := by omega
    simp only [f35l1, c1, decide_false, cond_false]) (N := N) (by omega) (s0 := List.replicate a.length pz) (Wr.zero (by simp))
  rw [h1.all] at h2
  exact h2
theorem f35v1l1_eq {N : Nat} {a b : List Int} (hl : a.length ≤ 1000) (h : a.length = b.length) (hN : 2000 ≤ N) : f35v1l1 N N (List.replicate a.length pz) a b (a.length : Int) 0 = some ((zp a b, ()), ((), ())) := by
  obtain ⟨s, h1, h2⟩ := idx_loop (m := a.length) (f := fun n (s : List P2) k => f35v1l1 N n s a b (a.length : Int) (k : Int)) (fun k s => Wr pz a.length (fun k => (a.getD k 0, (b.getD k 0, ()))) k s) (fun k s => s.set k (a.getD k 0, (b.getD k 0, ()))) (fin := fun s => some ((s, ()), ((), ()))) (fun n k s hk hw => by
    refine ⟨?_, hw.set hk⟩
    have hs := hw.1
    simp only [f35v1l1, show (0 : Int) ≤ (k : Int) by omega, show (k : Int) < (a.length : Int) by omega, show (k : Int) < (b.length : Int) by omega, show (k : Int) < (s.length : Int) by omega, decide_true, Bool.and_self, cond_true, Int.toNat_natCast]
    rw [w64s k (by omega), bindS]) (fun n s _ => by
    have c1 : ¬ (a.length : Int) < (a.length : Int) := by omega
    simp only [f35v1l1, c1, decide_false, cond_false]) (N := N) (by omega) (s0 := List.replicate a.length pz) (Wr.zero (by simp))
  rw [h1.all] at h2
  exact h2
theorem f35l3_eq {N : Nat} {z : List P2} (hl : z.length ≤ 1000) (hN : 2000 ≤ N) : f35l3 N N [] [] z (z.length : Int) 0 = some ((re z, (im z, ())), ((), ((), ()))) := by
  obtain ⟨s, h1, h2⟩ := idx_loop (m := z.length) (f := fun n (s : List Int × List Int) k => f35l3 N n s.1 s.2 z (z.length : Int) (k : Int)) (fun k s => s.1 = tab k (fun k => (z.getD k pz).1) ∧ s.2 = tab k (fun k => (z.getD k pz).2.1)) (fun k s => (s.1 ++ [(z.getD k pz).1], s.2 ++ [(z.getD k pz).2.1])) (fin := fun s => some ((s.1, (s.2, ())), ((), ((), ())))) (fun n k s hk hw => by
    refine ⟨?_, by rw [hw.1, tab_succ], by rw [hw.2, tab_succ]⟩
    have l1 : s.1.length = k := by rw [hw.1, tab_len]
    have l2 : s.2.length = k := by rw [hw.2, tab_len]
    simp only [f35l3, show (0 : Int) ≤ (k : Int) by omega, show (k : Int) < (z.length : Int) by omega, List.length_cons, List.length_nil, show (s.1.length + (0 + 1)) * 8 ≤ 140737488355328 by omega, show (s.2.length + (0 + 1)) * 8 ≤ 140737488355328 by omega, decide_true, Bool.and_self, cond_true, Int.toNat_natCast]
    rw [w64s k (by omega), bindS]
    rfl) (fun n s _ => by
    have c1 : ¬ (z.length : Int) < (z.length : Int) := by omega
    simp only [f35l3, c1, decide_false, cond_false]) (N := N) (by omega) (s0 := ([], [])) ⟨rfl, rfl⟩
  rw [h1.1, h1.2, ← re_eq rfl, ← im_eq rfl] at h2
  exact h2
theorem f35v1l3_eq {N : Nat} {z : List P2} (hl : z.length ≤ 1000) (hN : 2000 ≤ N) : f35v1l3 N N [] [] z (z.length : Int) 0 = some ((re z, (im z, ())), ((), ((), ()))) := by
  obtain ⟨s, h1, h2⟩ := idx_loop (m := z.length) (f := fun n (s : List Int × List Int) k => f35v1l3 N n s.1 s.2 z (z.length : Int) (k : Int)) (fun k s => s.1 = tab k (fun k => (z.getD k pz).1) ∧ s.2 = tab k (fun k => (z.getD k pz).2.1)) (fun k s => (s.1 ++ [(z.getD k pz).1], s.2 ++ [(z.getD k pz).2.1])) (fin := fun s => some ((s.1, (s.2, ())), ((), ((), ())))) (fun n k s hk hw => by
    refine ⟨?_, by rw [hw.1, tab_succ], by rw [hw.2, tab_succ]⟩
    have l1 : s.1.length = k := by rw [hw.1, tab_len]
    have l2 : s.2.length = k := by rw [hw.2, tab_len]
    simp only [f35v1l3, show (0 : Int) ≤ (k : Int) by omega, show (k : Int) < (z.length : Int) by omega, List.length_cons, List.length_nil, show (s.1.length + (0 + 1)) * 8 ≤ 140737488355328 by omega, show (s.2.length + (0 + 1)) * 8 ≤ 140737488355328 by omega, decide_true, Bool.and_self, cond_true, Int.toNat_natCast]
    rw [w64s k (by omega), bindS]
    rfl) (fun n s _ => by
    have c1 : ¬ (z.length : Int) < (z.length : Int) := by omega
    simp only [f35v1l3, c1, decide_false, cond_false]) (N := N) (by omega) (s0 := ([], [])) ⟨rfl, rfl⟩
  rw [h1.1, h1.2, ← re_eq rfl, ← im_eq rfl] at h2
  exact h2
/-- The errors of two lists. -/
def er2 (B : Int) (a b : List Int) : Int := if a.length = b.length ∧ szB 6 (a.length : Int) = true then if (a.all (inR B) && b.all (inR B)) = true then 0 else 6 else 1
theorem sz6 (n : Nat) : (decide (1 ≤ (n : Int)) && szB 6 (n : Int)) = szB 6 (n : Int) := by
  cases h : szB 6 (n : Int) with
  | false => simp
  | true =>
    obtain ⟨p, hp, e⟩ := szB_iff.1 h
    have : 0 < 2 ^ p := Nat.pow_pos (by omega)
    simp
    omega
theorem sz6_of {n : Nat} (h : szB 6 (n : Int) = true) : ∃ l, l ≤ 6 ∧ n = 2 ^ l := by
  obtain ⟨p, hp, e⟩ := szB_iff.1 h
  exact ⟨p, hp, by omega⟩
theorem er2_zero {B : Int} {a b : List Int} (h : er2 B a b = 0) : a.length = b.length ∧ (∃ l, l ≤ 6 ∧ a.length = 2 ^ l) ∧ a.all (inR B) = true ∧ b.all (inR B) = true := by
  unfold er2 at h
  by_cases h1 : a.length = b.length ∧ szB 6 (a.length : Int) = true
  · by_cases h2 : (a.all (inR B) && b.all (inR B)) = true
    · have h2' := h2
      rw [Bool.and_eq_true] at h2'
      exact ⟨h1.1, sz6_of h1.2, h2'.1, h2'.2⟩
    · rw [if_pos h1, if_neg h2] at h; omega
  · rw [if_neg h1] at h; omega
theorem zp_sq {B : Int} (hB : 0 ≤ B) {a b : List Int} (ha : a.all (inR B) = true) (hb : b.all (inR B) = true) : Sq (B * B) (zp a b) :=
  sq_tab (sq0 B) fun k _ => ⟨sqL_of hB ha k, sqL_of hB hb k⟩
theorem it_m {l : Nat} (hl : l ≤ 6) : itS (2 * l) 1099511627776 ≤ 1152921504606846976 := by
  have h1 := itS_le (S := 1099511627776) (by decide) (12 - 2 * l) (2 * l)
  rw [show 2 * l + (12 - 2 * l) = 12 by omega] at h1
  exact Int.le_trans h1 (by decide +kernel)
theorem it_u {l : Nat} (hl : l ≤ 6) : itS (2 * l) 1125899906842624 ≤ 18446744073709551616 := by
  have h1 := itS_le (S := 1125899906842624) (by decide) (12 - 2 * l) (2 * l)
  rw [show 2 * l + (12 - 2 * l) = 12 by omega] at h1
  exact Int.le_trans h1 (by decide +kernel)
def lw (n : Nat) : Nat := Nat.log2 n
theorem lw_eq (l : Nat) : lw (2 ^ l) = l := Nat.log2_two_pow
abbrev R2 := ((List Int) × ((List Int) × Unit)) × (Unit × (Unit × (Int × Unit)))
def resM (N : Nat) (a b : List Int) : R2 := if er2 1048576 a b = 0 then ((re (mix N (lw a.length) (zp a b)), (im (mix N (lw a.length) (zp a b)), ())), ((), ((), (0, ())))) else (([], ([], ())), ((), ((), (er2 1048576 a b, ()))))
def resU (N : Nat) (a b : List Int) : R2 := if er2 33554432 a b = 0 then ((re (unmix N (lw a.length) (zp a b)), (im (unmix N (lw a.length) (zp a b)), ())), ((), ((), (0, ())))) else (([], ([], ())), ((), ((), (er2 33554432 a b, ()))))
theorem f35_eq {N : Nat} (hN : 2000 ≤ N) (a b : List Int) (bb : Bool) (u : Unit × Unit) (u1 u2 : Unit) : f35F N a b 1048576 (((bb, (u, ())), u1), u2) = some (resM N a b) := by
  unfold f35F resM er2
  by_cases h0 : a.length = b.length
  · have c0 : (((a.length : Nat) : Int) != ((b.length : Nat) : Int)) = false := by rw [h0]; exact bne_self_eq_false _
    rw [c0, show (64 : Int) = ((2 ^ 6 : Nat) : Int) from rfl, f24_eq N (by omega) (by omega), sz6]
    simp only [cond_false, Option.bind_some]
    cases h1 : szB 6 (a.length : Int) with
    | false => simp [h0]
    | true =>
      obtain ⟨l, hl, hx⟩ := sz6_of h1
      have hp : 2 ^ l ≤ 2 ^ 6 := Nat.pow_le_pow_right (by omega) (by omega)
      rw [f25_eq hN (by decide) (by decide) (by simp) (by simp; omega)]
      simp only [Bool.not_true, cond_false, Option.bind_some, List.all_cons, List.all_nil, Bool.and_true]
      cases h2 : (a.all (inR 1048576) && b.all (inR 1048576)) with
      | false => simp [h0]
      | true =>
        have h2' := h2
        rw [Bool.and_eq_true] at h2'
        have d1 : ((a.length : Nat) : Int) * 16 ≤ 140737488355328 := by omega
        have d2 : (0 : Int) ≤ ((a.length : Nat) : Int) := by omega
        have hz : (zp a b).length = 2 ^ l := by rw [zp_len, hx]
        have r1 := f35l1_eq (N := N) (a := a) (b := b) (by omega) h0 hN
        have r2 := f29_eq hN bb u (S := 1099511627776) (by decide) hl hz (zp_sq (B := 1048576) (by decide) h2'.1 h2'.2) (it_m hl)
        have hm := mix_len N l _ hz
        have r3 := f35l3_eq (N := N) (z := mix N l (zp a b)) (by omega) hN
        simp only [Bool.not_true, cond_false, d1, d2, beq_self_eq_true, decide_true, Bool.and_self, cond_true, Int.toNat_natCast, List.length_replicate]
        rw [r1]
        simp only [Option.bind_some]
        rw [r2]
        simp only [Option.bind_some]
        rw [r3, if_pos (show (if a.length = b.length ∧ True then if True then (0 : Int) else 6 else 1) = 0 by simp [h0]), hx, lw_eq]
        rfl
  · have c0 : (((a.length : Nat) : Int) != ((b.length : Nat) : Int)) = true := by
      have : ¬ ((a.length : Nat) : Int) = ((b.length : Nat) : Int) := by omega
      simpa using this
    simp [c0, h0]
theorem f35v1_eq {N : Nat} (hN : 2000 ≤ N) (a b : List Int) (bb : Bool) (u : Unit × Unit) (u1 u2 : Unit) : f35v1F N a b 33554432 (((bb, (u, ())), u1), u2) = some (resU N a b) := by
  unfold f35v1F resU er2
  by_cases h0 : a.length = b.length
  · have c0 : (((a.length : Nat) : Int) != ((b.length : Nat) : Int)) = false := by rw [h0]; exact bne_self_eq_false _
    rw [c0, show (64 : Int) = ((2 ^ 6 : Nat) : Int) from rfl, f24_eq N (by omega) (by omega), sz6]
    simp only [cond_false, Option.bind_some]
    cases h1 : szB 6 (a.length : Int) with
    | false => simp [h0]
    | true =>
      obtain ⟨l, hl, hx⟩ := sz6_of h1
      have hp : 2 ^ l ≤ 2 ^ 6 := Nat.pow_le_pow_right (by omega) (by omega)
      rw [f25_eq hN (by decide) (by decide) (by simp) (by simp; omega)]
      simp only [Bool.not_true, cond_false, Option.bind_some, List.all_cons, List.all_nil, Bool.and_true]
      cases h2 : (a.all (inR 33554432) && b.all (inR 33554432)) with
      | false => simp [h0]
      | true =>
        have h2' := h2
        rw [Bool.and_eq_true] at h2'
        have d1 : ((a.length : Nat) : Int) * 16 ≤ 140737488355328 := by omega
        have d2 : (0 : Int) ≤ ((a.length : Nat) : Int) := by omega
        have hz : (zp a b).length = 2 ^ l := by rw [zp_len, hx]
        have r1 := f35v1l1_eq (N := N) (a := a) (b := b) (by omega) h0 hN
        have r2 := f33_eq hN bb u l N 1125899906842624 (zp a b) (by decide) hl (by omega) hz (zp_sq (B := 33554432) (by decide) h2'.1 h2'.2) (it_u hl)
        have hm := unmix_len N l _ hz
        have r3 := f35v1l3_eq (N := N) (z := unmix N l (zp a b)) (by omega) hN
        simp only [Bool.not_true, cond_false, d1, d2, beq_self_eq_true, decide_true, Bool.and_self, cond_true, Int.toNat_natCast, List.length_replicate]
        rw [r1]
        simp only [Option.bind_some]
        rw [r2]
        simp only [Option.bind_some]
        rw [r3, if_pos (show (if a.length = b.length ∧ True then if True then (0 : Int) else 6 else 1) = 0 by simp [h0]), hx, lw_eq]
        rfl
  · have c0 : (((a.length : Nat) : Int) != ((b.length : Nat) : Int)) = true := by
      have : ¬ ((a.length : Nat) : Int) = ((b.length : Nat) : Int) := by omega
      simpa using this
    simp [c0, h0]
theorem f16_eq {N : Nat} (hN : 2000 ≤ N) (a b : List Int) : f16F N a b = some (resM N a b) := by
  unfold f16F f26F
  simp only [Option.bind_some]
  rw [f35_eq hN]; rfl
theorem f18_eq {N : Nat} (hN : 2000 ≤ N) (a b : List Int) : f18F N a b = some (resU N a b) := by
  unfold f18F f32F
  simp only [Option.bind_some]
  rw [f35v1_eq hN]; rfl
theorem f36_eq {N : Nat} (hN : 2000 ≤ N) {B : Int} (h0 : 0 ≤ B) (h1 : B ≤ 4611686018427387904) {a b : List Int} (ha : a.length ≤ 1000) (hb : b.length ≤ 1000) : f36F N a b B = some ((), (er2 B a b, ())) := by
  unfold f36F er2
  by_cases h : a.length = b.length
  · have c0 : (((a.length : Nat) : Int) != ((b.length : Nat) : Int)) = false := by rw [h]; exact bne_self_eq_false _
    rw [c0, show (64 : Int) = ((2 ^ 6 : Nat) : Int) from rfl, f41_eq (by omega) (by omega), f30_eq h0 h1 (by omega) (by omega), f30_eq h0 h1 (by omega) (by omega)]
    simp only [cond_false, Option.bind_some]
    cases szB 6 (a.length : Int) <;> cases a.all (inR B) <;> cases b.all (inR B) <;> simp [h]
  · have c0 : (((a.length : Nat) : Int) != ((b.length : Nat) : Int)) = true := by
      have : ¬ ((a.length : Nat) : Int) = ((b.length : Nat) : Int) := by omega
      simpa using this
    simp [c0, h]
theorem f17_eq {N : Nat} (hN : 2000 ≤ N) {a b : List Int} (ha : a.length ≤ 1000) (hb : b.length ≤ 1000) : f17F N a b = some (resM N a b) := by
  unfold f17F resM
  rw [f36_eq hN (by decide) (by decide) ha hb]
  simp only [Option.bind_some]
  by_cases e : er2 1048576 a b = 0
  · obtain ⟨h0, ⟨l, hl, hx⟩, h1, h2⟩ := er2_zero e
    have hz : (zp a b).length = 2 ^ l := by rw [zp_len, hx]
    have r := f38_eq hN hl (S := 1099511627776) (by decide) l N (zp a b) (Nat.le_refl l) (by omega) hz (zp_sq (B := 1048576) (by decide) h1 h2) (Int.le_trans (it_m hl) (by decide))
    rw [re_zp, im_zp h0] at r
    have hrw : ∀ R : Int × ((List (Int × (Int × (Int × Unit)))) × (Int × (Int × (Int × Unit)))), (R.1, (R.2.1, (R.2.2.1, (R.2.2.2.1, (R.2.2.2.2.1, ()))))) = R := fun R => rfl
    simp only [e, bne_self_eq_false, cond_false, if_true]
    rw [hx, f37_eq hN hl]
    simp only [Option.bind_some]
    rw [hrw, r, lw_eq]
    rfl
  · have e' : (er2 1048576 a b != 0) = true := by simpa using e
    simp only [e, e', cond_true, if_false]
theorem f19_eq {N : Nat} (hN : 2000 ≤ N) {a b : List Int} (ha : a.length ≤ 1000) (hb : b.length ≤ 1000) : f19F N a b = some (resU N a b) := by
  unfold f19F resU
  rw [f36_eq hN (by decide) (by decide) ha hb]
  simp only [Option.bind_some]
  by_cases e : er2 33554432 a b = 0
  · obtain ⟨h0, ⟨l, hl, hx⟩, h1, h2⟩ := er2_zero e
    have hz : (zp a b).length = 2 ^ l := by rw [zp_len, hx]
    have r := f39_eq hN hl l N 1125899906842624 (zp a b) (by decide) (Nat.le_refl l) (by omega) hz (zp_sq (B := 33554432) (by decide) h1 h2) (Int.le_trans (it_u hl) (by decide))
    rw [re_zp, im_zp h0] at r
    have hrw : ∀ R : Int × ((List (Int × (Int × (Int × Unit)))) × (Int × (Int × (Int × Unit)))), (R.1, (R.2.1, (R.2.2.1, (R.2.2.2.1, (R.2.2.2.2.1, ()))))) = R := fun R => rfl
    simp only [e, bne_self_eq_false, cond_false, if_true]
    rw [hx, f37_eq hN hl]
    simp only [Option.bind_some]
    rw [hrw, r, lw_eq]
    rfl
  · have e' : (er2 33554432 a b != 0) = true := by simpa using e
    simp only [e, e', cond_true, if_false]
/-! ### How many turns -/
theorem turns_all : ([2, 4, 8, 16, 32, 64, 128].all fun n : Int => match f20F 200000 n, f21F 200000 n with | some a, some b => a.2.1 == b.2.1 && (a.2.2.1 == 0 && b.2.2.1 == 0) | _, _ => false) = true := by decide +kernel
end Go.Sh.c07

namespace Go.Sh.c07
open p06 (Bd inR inR_iff isQ isQ_iff sc fwT bkT Fac ofN OfOk of_ok fwT_grows bkT_grows sq0 le_of_sq sq_le)

/-! ### So many turns of pairs, and their squares -/
def Turned (n : Nat) (p q : Int) : Prop := ∃ u c v : Int, 19342813113834066795298816 * q = u + 2 * c + v ∧ (∀ G W : Int, 2 * (G * W * c) ≤ G * G * u + W * W * v) ∧ u ≤ 19346354888696219029209088 * p ∧ v ≤ 43521329506126650289422336 * n
theorem Turned.add {n m : Nat} {p q r s : Int} (h : Turned n p q) (k : Turned m r s) : Turned (n + m) (p + r) (q + s) := by
  obtain ⟨u, c, v, h1, h2, h3, h4⟩ := h
  obtain ⟨u', c', v', k1, k2, k3, k4⟩ := k
  refine ⟨u + u', c + c', v + v', by omega, fun G W => ?_, by omega, by omega⟩
  have a := h2 G W
  have b := k2 G W
  have e1 : G * W * (c + c') = G * W * c + G * W * c' := by grind
  have e2 : G * G * (u + u') + W * W * (v + v') = (G * G * u + W * W * v) + (G * G * u' + W * W * v') := by grind
  omega
theorem Turned.same {p : Int} (h : 0 ≤ p) : Turned 0 p p := by
  refine ⟨19342813113834066795298816 * p, 0, 0, by omega, fun G W => ?_, by omega, by omega⟩
  have := Int.mul_nonneg (sq0 G) (show 0 ≤ 19342813113834066795298816 * p by omega)
  simp only [Int.mul_zero, Int.add_zero]
  exact this
theorem Turned.more {n m : Nat} {p q : Int} (h : Turned n p q) (hm : n ≤ m) : Turned m p q := by
  obtain ⟨u, c, v, h1, h2, h3, h4⟩ := h
  exact ⟨u, c, v, h1, h2, h3, by omega⟩
theorem Turned.bound {n : Nat} {p q B C D : Int} (h : Turned n p q) (hB : 1 ≤ B) (hC : 1 ≤ C) (hp : p ≤ B * B) (hn : (n : Int) ≤ C * C) (hD : 32772 * B + 49152 * C ≤ 32768 * D) : q ≤ D * D := by
  obtain ⟨u, c, v, h1, h2, h3, h4⟩ := h
  obtain ⟨W, hW⟩ : ∃ W, W = 4398583382016 * B := ⟨_, rfl⟩
  obtain ⟨G, hG⟩ : ∃ G, G = 6597069766656 * C := ⟨_, rfl⟩
  have hWW : W * W = 19347537901498287104196608 * (B * B) + (4398583382016 * 4398583382016 - 19347537901498287104196608) * (B * B) := by rw [hW]; grind
  have hGG : G * G = 43521329506126650289422336 * (C * C) := by rw [hG]; grind
  have b0 := sq0 B
  have hu : u ≤ W * W := by omega
  have hv : v ≤ G * G := by omega
  have h5 := h2 G W
  have m1 := Int.mul_le_mul_of_nonneg_left hu (sq0 G)
  have m2 := Int.mul_le_mul_of_nonneg_left hv (sq0 W)
  have hpos : 0 < G * W := Int.mul_pos (by omega) (by omega)
  have hc : c ≤ G * W := by
    rcases Int.lt_or_le (G * W) c with hlt | hle
    · have := Int.mul_lt_mul_of_pos_left hlt hpos
      have e : G * W * (G * W) = G * G * (W * W) := by grind
      have e2 : W * W * (G * G) = G * G * (W * W) := by grind
      omega
    · exact hle
  have hq : 19342813113834066795298816 * q ≤ (W + G) * (W + G) := by
    have : (W + G) * (W + G) = W * W + 2 * (G * W) + G * G := by grind
    omega
  have hD' : W + G ≤ 4398046511104 * D := by omega
  have hm := Int.mul_le_mul hD' hD' (by omega) (by omega)
  have e : 4398046511104 * D * (4398046511104 * D) = 19342813113834066795298816 * (D * D) := by grind
  omega
def e2 (p : P2) : Int := p.1 * p.1 + p.2.1 * p.2.1
theorem e2_nonneg (p : P2) : 0 ≤ e2 p := by have := sq0 p.1; have := sq0 p.2.1; unfold e2; omega
theorem turned_of {a b x y x1 y1 x2 q1 q2 q3 : Int} (F : Fac a b) (h1 : 16384 * x1 = 16384 * x - a * y - q1) (h2 : 16384 * y1 = 16384 * y + b * x1 + q2) (h3 : 16384 * x2 = 16384 * x1 - a * y1 - q3)
    (k1 : Bd 8192 q1) (k2 : Bd 8192 q2) (k3 : Bd 8192 q3) : Turned 1 (x * x + y * y) (x2 * x2 + y1 * y1) := by
  obtain ⟨X, Y, f1, f2, e1, e2, e3, _, e5⟩ := p06.turn_core F h1 h2 h3 k1 k2 k3
  refine ⟨X * X + Y * Y, X * f1 + Y * f2, f1 * f1 + f2 * f2, ?_, fun G W => ?_, by omega, by omega⟩
  · have i3 : (4398046511104 * x2) * (4398046511104 * x2) = X * X + 2 * (X * f1) + f1 * f1 := by rw [e1]; grind
    have i4 : (4398046511104 * y1) * (4398046511104 * y1) = Y * Y + 2 * (Y * f2) + f2 * f2 := by rw [e2]; grind
    have i5 : (4398046511104 * x2) * (4398046511104 * x2) = 19342813113834066795298816 * (x2 * x2) := by grind
    have i6 : (4398046511104 * y1) * (4398046511104 * y1) = 19342813113834066795298816 * (y1 * y1) := by grind
    omega
  · have s1 := sq0 (G * X - W * f1)
    have s2 := sq0 (G * Y - W * f2)
    have i1 : (G * X - W * f1) * (G * X - W * f1) + (G * Y - W * f2) * (G * Y - W * f2) = G * G * (X * X + Y * Y) + W * W * (f1 * f1 + f2 * f2) - 2 * (G * W * (X * f1 + Y * f2)) := by grind
    omega
theorem tw_turned {N : Nat} (hN : 100 ≤ N) {n d : Int} (hd : isQ d = true) (hn : inR 1099511627776 n = true) (x y : Int) : Turned 1 (x * x + y * y) ((tw N n d x y).1 * (tw N n d x y).1 + (tw N n d x y).2 * (tw N n d x y).2) := by
  obtain ⟨x1, q1, q2, q3, h1, h2, h3, k1, k2, k3⟩ := p06.fw3_eqs (ofN N n d).2.1 (ofN N n d).2.2.1 (p03.rot (ofN N n d).1.toNat x y).1 (p03.rot (ofN N n d).1.toNat x y).2
  have := turned_of (of_ok hN hd hn).fac h1 h2 h3 k1 k2 k3
  rw [p06.rot_sq] at this
  exact this
theorem bk_turned {N : Nat} (hN : 100 ≤ N) {n d : Int} (hd : isQ d = true) (hn : inR 1099511627776 n = true) (x y : Int) : Turned 1 (x * x + y * y) ((bk N n d x y).1 * (bk N n d x y).1 + (bk N n d x y).2 * (bk N n d x y).2) := by
  obtain ⟨x1, q1, q2, q3, h1, h2, h3, k1, k2, k3⟩ := p06.bk3_eqs (ofN N n d).2.1 (ofN N n d).2.2.1 x y
  have := turned_of (of_ok hN hd hn).fac.neg h1 h2 h3 k1 k2 k3
  unfold bk bkT
  rw [p06.tor_sq]
  exact this
/-! ### Sums -/
def sT (n : Nat) (f : Nat → Int) : Int := (tab n f).sum
theorem sT_zero (f : Nat → Int) : sT 0 f = 0 := rfl
theorem sT_succ (n : Nat) (f : Nat → Int) : sT (n + 1) f = sT n f + f n := by unfold sT; rw [tab_succ, sumL_app]; simp
theorem sT_ext {n : Nat} {f g : Nat → Int} (h : ∀ k, k < n → f k = g k) : sT n f = sT n g := by unfold sT; rw [tab_ext h]
theorem sT_add (f g : Nat → Int) : ∀ n, sT n (fun k => f k + g k) = sT n f + sT n g
  | 0 => rfl
  | n + 1 => by rw [sT_succ, sT_succ, sT_succ, sT_add f g n]; omega
theorem sT_nonneg {f : Nat → Int} : ∀ {n}, (∀ k, k < n → 0 ≤ f k) → 0 ≤ sT n f
  | 0, _ => by rw [sT_zero]; omega
  | n + 1, h => by
    have h1 := sT_nonneg (n := n) fun k hk => h k (by omega)
    have h2 := h n (by omega)
    rw [sT_succ]; omega
theorem sT_front (f : Nat → Int) : ∀ n, sT (n + 1) f = f 0 + sT n fun k => f (k + 1)
  | 0 => by rw [sT_succ, sT_zero, sT_zero]; omega
  | n + 1 => by rw [sT_succ, sT_front f n, sT_succ]; omega
theorem sT_rev (f : Nat → Int) : ∀ n, sT n (fun k => f (n - 1 - k)) = sT n f
  | 0 => rfl
  | n + 1 => by
    have h1 := sT_front (fun k => f (n + 1 - 1 - k)) n
    have h2 : sT n (fun k => f (n + 1 - 1 - (k + 1))) = sT n (fun k => f (n - 1 - k)) := sT_ext fun k hk => by rw [show n + 1 - 1 - (k + 1) = n - 1 - k by omega]
    rw [h1, h2, sT_rev f n, sT_succ]
    simp only [Nat.add_sub_cancel, Nat.sub_zero]
    omega
theorem sT_pairs (f : Nat → Int) : ∀ h, sT (2 * h) f = sT h fun k => f (2 * k) + f (2 * k + 1)
  | 0 => rfl
  | h + 1 => by
    rw [show 2 * (h + 1) = 2 * h + 1 + 1 by omega, sT_succ, sT_succ, sT_pairs f h, sT_succ]
    omega
theorem sT_app (f : Nat → Int) (h : Nat) : ∀ m, sT (h + m) f = sT h f + sT m fun k => f (k + h)
  | 0 => by rw [sT_zero]; simp
  | m + 1 => by rw [← Nat.add_assoc, sT_succ, sT_app f h m, sT_succ, Nat.add_comm h m]; omega
theorem sT_ends (f : Nat → Int) (h : Nat) : sT (2 * h) f = sT h fun k => f (2 * k) + f (2 * h - 1 - 2 * k) := by
  have h1 : sT h (fun k => f (2 * h - 1 - 2 * k)) = sT h fun k => f (2 * k + 1) := by
    rw [← sT_rev (fun k => f (2 * k + 1)) h]
    exact sT_ext fun k hk => by rw [show 2 * (h - 1 - k) + 1 = 2 * h - 1 - 2 * k by omega]
  rw [sT_pairs, sT_add, sT_add, h1]
theorem turned_sum {m : Nat} {P Q : Nat → Int} : ∀ {n : Nat}, (∀ k, k < n → Turned m (P k) (Q k)) → Turned (n * m) (sT n P) (sT n Q)
  | 0, _ => by rw [sT_zero, sT_zero, Nat.zero_mul]; exact Turned.same (Int.le_refl 0)
  | n + 1, h => by
    rw [sT_succ, sT_succ, Nat.add_mul, Nat.one_mul]
    exact (turned_sum fun k hk => h k (by omega)).add (h n (by omega))
/-! ### Rows -/
def en2 (z : List P2) : Int := sT z.length fun k => e2 (z.getD k pz)
theorem en2_of {z : List P2} {n : Nat} (h : z.length = n) : en2 z = sT n fun k => e2 (z.getD k pz) := by unfold en2; rw [h]
theorem en2_tab (n : Nat) (f : Nat → P2) : en2 (tab n f) = sT n fun k => e2 (f k) := by
  rw [en2_of (tab_len _ _)]
  exact sT_ext fun k hk => by rw [tab_getD hk]
theorem en2_nonneg (z : List P2) : 0 ≤ en2 z := sT_nonneg fun k _ => e2_nonneg _
theorem en2_app (a b : List P2) : en2 (a ++ b) = en2 a + en2 b := by
  rw [en2_of (List.length_append), sT_app]
  congr 1
  · exact sT_ext fun k hk => by rw [getD_app _ _ _ hk]
  · exact sT_ext fun k hk => by rw [getD_app']
def evR (l : Nat) (z : List P2) : List P2 := tab (2 ^ l) fun k => z.getD (2 * k) pz
def odR (l : Nat) (z : List P2) : List P2 := tab (2 ^ l) fun k => z.getD (2 * k + 1) pz
theorem ev_od {l : Nat} {z : List P2} (h : z.length = 2 ^ (l + 1)) : en2 (evR l z) + en2 (odR l z) = en2 z := by
  have hpp : 2 ^ (l + 1) = 2 * 2 ^ l := by rw [Nat.pow_succ]; omega
  unfold evR odR
  rw [en2_tab, en2_tab, ← sT_add, en2_of h, hpp, sT_pairs]
theorem mix_row {N : Nat} (hN : 100 ≤ N) {l : Nat} (hl : l ≤ 5) {z : List P2} (h : z.length = 2 ^ (l + 1)) :
    ∃ mid, Turned (2 ^ l) (en2 (mix N l (evR l z)) + en2 (mix N l (odR l z))) mid ∧ Turned (2 * 2 ^ l) mid (en2 (mix N (l + 1) z)) := by
  have hp : 2 ^ l ≤ 2 ^ 5 := Nat.pow_le_pow_right (by omega) (by omega)
  obtain ⟨a, ha⟩ : ∃ a, mix N l (evR l z) = a := ⟨_, rfl⟩
  obtain ⟨b, hb⟩ : ∃ b, mix N l (odR l z) = b := ⟨_, rfl⟩
  have la : a.length = 2 ^ l := by rw [← ha]; exact mix_len N l _ (tab_len _ _)
  have lb : b.length = 2 ^ l := by rw [← hb]; exact mix_len N l _ (tab_len _ _)
  have hm : isQ ((2 ^ (l + 1) : Nat) : Int) = true := isQ_pow (by omega)
  rw [ha, hb, en2_of la, en2_of lb]
  refine ⟨sT (2 ^ l) (fun k => e2 (a.getD k pz)) + sT (2 ^ l) (fun k => e2 (pr (tw N (-(k : Int)) ((2 ^ (l + 1) : Nat) : Int) (b.getD k pz).1 (b.getD k pz).2.1))), ?_, ?_⟩
  · have t1 := Turned.same (p := sT (2 ^ l) fun k => e2 (a.getD k pz)) (sT_nonneg fun k _ => e2_nonneg _)
    have t2 := turned_sum (m := 1) (P := fun k => e2 (b.getD k pz)) (Q := fun k => e2 (pr (tw N (-(k : Int)) ((2 ^ (l + 1) : Nat) : Int) (b.getD k pz).1 (b.getD k pz).2.1))) (n := 2 ^ l) fun k hk => tw_turned hN hm (part_in (Nat.le_refl 64) (by omega)) _ _
    have := t1.add t2
    rw [Nat.zero_add, Nat.mul_one] at this
    exact this
  · have hmx : en2 (mix N (l + 1) z) = sT (2 ^ l) (fun k => e2 (mixS N (2 ^ (l + 1)) k (a.getD k pz) (b.getD k pz)).1 + e2 (mixS N (2 ^ (l + 1)) k (a.getD k pz) (b.getD k pz)).2) := by
      rw [sT_add]
      show en2 (tab (2 ^ l) _ ++ tab (2 ^ l) _) = _
      rw [en2_app, en2_tab, en2_tab]
      show sT (2 ^ l) (fun k => e2 (mixS N (2 ^ (l + 1)) k ((mix N l (evR l z)).getD k pz) ((mix N l (odR l z)).getD k pz)).1) + sT (2 ^ l) (fun k => e2 (mixS N (2 ^ (l + 1)) k ((mix N l (evR l z)).getD k pz) ((mix N l (odR l z)).getD k pz)).2) = _
      rw [ha, hb]
    rw [hmx, ← sT_add, Nat.mul_comm]
    refine turned_sum fun k hk => ?_
    have p1 := tw_turned (N := N) hN (n := -1) (d := 8) (by decide) (by decide) (a.getD k pz).1 (tw N (-(k : Int)) ((2 ^ (l + 1) : Nat) : Int) (b.getD k pz).1 (b.getD k pz).2.1).1
    have p2 := tw_turned (N := N) hN (n := -1) (d := 8) (by decide) (by decide) (a.getD k pz).2.1 (tw N (-(k : Int)) ((2 ^ (l + 1) : Nat) : Int) (b.getD k pz).1 (b.getD k pz).2.1).2
    have p3 := p1.add p2
    have f1 : e2 (a.getD k pz) + e2 (pr (tw N (-(k : Int)) ((2 ^ (l + 1) : Nat) : Int) (b.getD k pz).1 (b.getD k pz).2.1)) =
        (a.getD k pz).1 * (a.getD k pz).1 + (tw N (-(k : Int)) ((2 ^ (l + 1) : Nat) : Int) (b.getD k pz).1 (b.getD k pz).2.1).1 * (tw N (-(k : Int)) ((2 ^ (l + 1) : Nat) : Int) (b.getD k pz).1 (b.getD k pz).2.1).1 + ((a.getD k pz).2.1 * (a.getD k pz).2.1 + (tw N (-(k : Int)) ((2 ^ (l + 1) : Nat) : Int) (b.getD k pz).1 (b.getD k pz).2.1).2 * (tw N (-(k : Int)) ((2 ^ (l + 1) : Nat) : Int) (b.getD k pz).1 (b.getD k pz).2.1).2) := by
      unfold e2 pr; simp only; omega
    have f2 : e2 (mixS N (2 ^ (l + 1)) k (a.getD k pz) (b.getD k pz)).1 + e2 (mixS N (2 ^ (l + 1)) k (a.getD k pz) (b.getD k pz)).2 =
        (tw N (-1) 8 (a.getD k pz).1 (tw N (-(k : Int)) ((2 ^ (l + 1) : Nat) : Int) (b.getD k pz).1 (b.getD k pz).2.1).1).1 * (tw N (-1) 8 (a.getD k pz).1 (tw N (-(k : Int)) ((2 ^ (l + 1) : Nat) : Int) (b.getD k pz).1 (b.getD k pz).2.1).1).1 + (tw N (-1) 8 (a.getD k pz).1 (tw N (-(k : Int)) ((2 ^ (l + 1) : Nat) : Int) (b.getD k pz).1 (b.getD k pz).2.1).1).2 * (tw N (-1) 8 (a.getD k pz).1 (tw N (-(k : Int)) ((2 ^ (l + 1) : Nat) : Int) (b.getD k pz).1 (b.getD k pz).2.1).1).2 +
        ((tw N (-1) 8 (a.getD k pz).2.1 (tw N (-(k : Int)) ((2 ^ (l + 1) : Nat) : Int) (b.getD k pz).1 (b.getD k pz).2.1).2).1 * (tw N (-1) 8 (a.getD k pz).2.1 (tw N (-(k : Int)) ((2 ^ (l + 1) : Nat) : Int) (b.getD k pz).1 (b.getD k pz).2.1).2).1 + (tw N (-1) 8 (a.getD k pz).2.1 (tw N (-(k : Int)) ((2 ^ (l + 1) : Nat) : Int) (b.getD k pz).1 (b.getD k pz).2.1).2).2 * (tw N (-1) 8 (a.getD k pz).2.1 (tw N (-(k : Int)) ((2 ^ (l + 1) : Nat) : Int) (b.getD k pz).1 (b.getD k pz).2.1).2).2) := by
      unfold mixS e2; simp only [neg_sq]; omega
    rw [f1, f2]
    exact p3
theorem unmix_row {N : Nat} (hN : 100 ≤ N) {l : Nat} (hl : l ≤ 5) {w : List P2} (h : w.length = 2 ^ (l + 1)) :
    ∃ mid, Turned (2 * 2 ^ l) (en2 w) mid ∧ Turned (2 ^ l) mid (en2 (tab (2 ^ l) fun k => (unS N (2 ^ (l + 1)) k (w.getD k pz) (w.getD (k + 2 ^ l) pz)).1) + en2 (tab (2 ^ l) fun k => (unS N (2 ^ (l + 1)) k (w.getD k pz) (w.getD (k + 2 ^ l) pz)).2)) := by
  have hp : 2 ^ l ≤ 2 ^ 5 := Nat.pow_le_pow_right (by omega) (by omega)
  have hpp : 2 ^ (l + 1) = 2 ^ l + 2 ^ l := by rw [Nat.pow_succ]; omega
  have hm : isQ ((2 ^ (l + 1) : Nat) : Int) = true := isQ_pow (by omega)
  have hw : en2 w = sT (2 ^ l) fun k => e2 (w.getD k pz) + e2 (w.getD (k + 2 ^ l) pz) := by rw [en2_of (h.trans hpp), sT_app, sT_add]
  obtain ⟨P, hP⟩ : ∃ P : Nat → Int × Int, P = fun k => bk N (-1) 8 (w.getD k pz).1 (-(w.getD (k + 2 ^ l) pz).1) := ⟨_, rfl⟩
  obtain ⟨Q, hQ⟩ : ∃ Q : Nat → Int × Int, Q = fun k => bk N (-1) 8 (w.getD k pz).2.1 (-(w.getD (k + 2 ^ l) pz).2.1) := ⟨_, rfl⟩
  refine ⟨sT (2 ^ l) (fun k => e2 ((P k).1, ((Q k).1, ()))) + sT (2 ^ l) (fun k => e2 ((P k).2, ((Q k).2, ()))), ?_, ?_⟩
  · rw [hw, ← sT_add, Nat.mul_comm]
    refine turned_sum fun k hk => ?_
    have p1 := bk_turned (N := N) hN (n := -1) (d := 8) (by decide) (by decide) (w.getD k pz).1 (-(w.getD (k + 2 ^ l) pz).1)
    have p2 := bk_turned (N := N) hN (n := -1) (d := 8) (by decide) (by decide) (w.getD k pz).2.1 (-(w.getD (k + 2 ^ l) pz).2.1)
    have p3 := p1.add p2
    rw [neg_sq, neg_sq] at p3
    have hPk : P k = bk N (-1) 8 (w.getD k pz).1 (-(w.getD (k + 2 ^ l) pz).1) := by rw [hP]
    have hQk : Q k = bk N (-1) 8 (w.getD k pz).2.1 (-(w.getD (k + 2 ^ l) pz).2.1) := by rw [hQ]
    rw [← hPk, ← hQk] at p3
    have f1 : e2 (w.getD k pz) + e2 (w.getD (k + 2 ^ l) pz) = (w.getD k pz).1 * (w.getD k pz).1 + (w.getD (k + 2 ^ l) pz).1 * (w.getD (k + 2 ^ l) pz).1 + ((w.getD k pz).2.1 * (w.getD k pz).2.1 + (w.getD (k + 2 ^ l) pz).2.1 * (w.getD (k + 2 ^ l) pz).2.1) := by unfold e2; omega
    have f2 : e2 ((P k).1, ((Q k).1, ())) + e2 ((P k).2, ((Q k).2, ())) = (P k).1 * (P k).1 + (P k).2 * (P k).2 + ((Q k).1 * (Q k).1 + (Q k).2 * (Q k).2) := by unfold e2; simp only; omega
    rw [f1, f2]
    exact p3
  · rw [en2_tab, en2_tab]
    have t1 := Turned.same (p := sT (2 ^ l) fun k => e2 ((P k).1, ((Q k).1, ()))) (sT_nonneg fun k _ => e2_nonneg _)
    have t2 := turned_sum (m := 1) (P := fun k => e2 ((P k).2, ((Q k).2, ()))) (Q := fun k => e2 (pr (bk N (-(k : Int)) ((2 ^ (l + 1) : Nat) : Int) (P k).2 (Q k).2))) (n := 2 ^ l) fun k hk => bk_turned hN hm (part_in (Nat.le_refl 64) (by omega)) _ _
    have := t1.add t2
    rw [Nat.zero_add, Nat.mul_one] at this
    rw [hP, hQ] at this ⊢
    exact this
end Go.Sh.c07

namespace Go.Sh.c07
open p06 (Bd inR inR_iff isQ isQ_iff sc fwT bkT Fac ofN OfOk of_ok fwT_grows bkT_grows sq0 le_of_sq sq_le)

def stg (C B : Int) : Int := B + (4 * B + 49152 * C + 32767) / 32768
def stgs : Nat → Int → Int → Int
  | 0, _, B => B
  | k + 1, C, B => stg C (stgs k C B)
theorem stg_ok (C B : Int) : 32772 * B + 49152 * C ≤ 32768 * stg C B := by unfold stg; omega
theorem stg_pos {C B : Int} (hC : 1 ≤ C) (hB : 1 ≤ B) : B ≤ stg C B := by unfold stg; omega
theorem stgs_pos {C B : Int} (hC : 1 ≤ C) (hB : 1 ≤ B) : ∀ k, 1 ≤ stgs k C B
  | 0 => hB
  | k + 1 => by have h := stgs_pos hC hB k; have := stg_pos hC h; show 1 ≤ stg C (stgs k C B); omega
theorem stgs_add (C B : Int) : ∀ (a b : Nat), stgs a C (stgs b C B) = stgs (a + b) C B
  | 0, b => by rw [Nat.zero_add]; rfl
  | a + 1, b => by rw [show a + 1 + b = (a + b) + 1 by omega]; exact congrArg (stg C) (stgs_add C B a b)
theorem stgs_le {C B : Int} (hC : 1 ≤ C) (hB : 1 ≤ B) : ∀ (d k : Nat), stgs k C B ≤ stgs (k + d) C B
  | 0, k => Int.le_refl _
  | d + 1, k => Int.le_trans (stgs_le hC hB d k) (stg_pos hC (stgs_pos hC hB (k + d)))
/-- Each stage adds little. -/
theorem stgs_lin {C B M d : Int} (hd : 4 * M + 49152 * C + 32767 ≤ 32768 * d + 32767) (h0 : 0 ≤ d) : ∀ k : Nat, B + (k : Int) * d ≤ M → stgs k C B ≤ B + (k : Int) * d
  | 0, _ => by show B ≤ _; simp
  | k + 1, h => by
    have e : ((k + 1 : Nat) : Int) * d = (k : Int) * d + d := by rw [Int.natCast_add, Int.add_mul]; simp
    rw [e] at h ⊢
    have ih := stgs_lin (B := B) hd h0 k (by omega)
    show stg C (stgs k C B) ≤ _
    unfold stg
    omega
theorem Turned.stage {n : Nat} {p q B C : Int} (h : Turned n p q) (hB : 1 ≤ B) (hC : 1 ≤ C) (hp : p ≤ B * B) (hn : (n : Int) ≤ C * C) : q ≤ stg C B * stg C B := h.bound hB hC hp hn (stg_ok C B)

def en3 (zs : List (List P2)) : Int := (zs.map en2).sum
theorem en3_cons (z : List P2) (r : List (List P2)) : en3 (z :: r) = en2 z + en3 r := by simp [en3]
theorem en3_app (a b : List (List P2)) : en3 (a ++ b) = en3 a + en3 b := by unfold en3; rw [List.map_append, sumL_app]
theorem en3_one (z : List P2) : en3 [z] = en2 z := by simp [en3]
theorem ev_od3 {l : Nat} : ∀ {zs : List (List P2)}, (∀ z ∈ zs, z.length = 2 ^ (l + 1)) → en3 (zs.map (evR l)) + en3 (zs.map (odR l)) = en3 zs
  | [], _ => rfl
  | z :: r, h => by
    have h1 := ev_od (h z (by simp))
    have h2 := ev_od3 (zs := r) fun u hu => h u (by simp [hu])
    simp only [List.map_cons, en3_cons]
    omega
theorem mix_rows {N : Nat} (hN : 100 ≤ N) {l : Nat} (hl : l ≤ 5) : ∀ {zs : List (List P2)}, (∀ z ∈ zs, z.length = 2 ^ (l + 1)) →
    ∃ mid, Turned (zs.length * 2 ^ l) (en3 (zs.map fun z => mix N l (evR l z)) + en3 (zs.map fun z => mix N l (odR l z))) mid ∧ Turned (zs.length * (2 * 2 ^ l)) mid (en3 (zs.map (mix N (l + 1))))
  | [], _ => ⟨0, by simpa [en3] using Turned.same (Int.le_refl 0), by simpa [en3] using Turned.same (Int.le_refl 0)⟩
  | z :: r, h => by
    obtain ⟨m1, a1, a2⟩ := mix_row hN hl (h z (by simp))
    obtain ⟨m2, b1, b2⟩ := mix_rows hN hl (zs := r) fun u hu => h u (by simp [hu])
    refine ⟨m1 + m2, ?_, ?_⟩
    · have := a1.add b1
      simp only [List.map_cons, en3_cons, List.length_cons, Nat.add_mul, Nat.one_mul]
      rw [Nat.add_comm (2 ^ l)] at this
      rw [show en2 (mix N l (evR l z)) + en3 (r.map fun z => mix N l (evR l z)) + (en2 (mix N l (odR l z)) + en3 (r.map fun z => mix N l (odR l z))) = en2 (mix N l (evR l z)) + en2 (mix N l (odR l z)) + (en3 (r.map fun z => mix N l (evR l z)) + en3 (r.map fun z => mix N l (odR l z))) by omega]
      exact this
    · have := a2.add b2
      simp only [List.map_cons, en3_cons, List.length_cons, Nat.add_mul, Nat.one_mul]
      rw [Nat.add_comm (2 * 2 ^ l)] at this
      exact this
theorem mix_fam {N : Nat} (hN : 100 ≤ N) {C : Int} (hC : 1 ≤ C) : ∀ (l : Nat) (zs : List (List P2)) (B : Int), l ≤ 6 → (∀ z ∈ zs, z.length = 2 ^ l) → 1 ≤ B → ((zs.length * 2 ^ l : Nat) : Int) ≤ C * C → en3 zs ≤ B * B →
    en3 (zs.map (mix N l)) ≤ stgs (2 * l) C B * stgs (2 * l) C B
  | 0, zs, B, _, _, _, _, h => by
    have : zs.map (mix N 0) = zs := by
      rw [show mix N 0 = id from rfl, List.map_id]
    rw [this]; exact h
  | l + 1, zs, B, hl, hz, hB, hn, h => by
    have hpp : 2 ^ (l + 1) = 2 * 2 ^ l := by rw [Nat.pow_succ]; omega
    have ih := mix_fam hN hC l (zs.map (evR l) ++ zs.map (odR l)) B (by omega) (fun z hm => by
      rcases List.mem_append.1 hm with hm | hm
      · obtain ⟨y, _, rfl⟩ := List.mem_map.1 hm; exact tab_len _ _
      · obtain ⟨y, _, rfl⟩ := List.mem_map.1 hm; exact tab_len _ _) hB (by
        rw [List.length_append, List.length_map, List.length_map]
        rw [hpp] at hn
        rw [show (zs.length + zs.length) * 2 ^ l = zs.length * (2 * 2 ^ l) by rw [← Nat.two_mul, Nat.mul_assoc, Nat.mul_left_comm]]
        exact hn) (by rw [en3_app, ev_od3 hz]; exact h)
    rw [List.map_append, en3_app, List.map_map, List.map_map] at ih
    obtain ⟨mid, m1, m2⟩ := mix_rows hN (by omega) hz
    have hb := stgs_pos hC hB (2 * l)
    have n1 : ((zs.length * 2 ^ l : Nat) : Int) ≤ C * C := by
      have : zs.length * 2 ^ l ≤ zs.length * 2 ^ (l + 1) := Nat.mul_le_mul_left _ (by omega)
      omega
    have h1 := m1.stage hb hC ih n1
    have h2 := m2.stage (stgs_pos hC hB (2 * l + 1)) hC h1 (by rw [← hpp]; exact hn)
    exact h2
theorem unmix_rows {N : Nat} (hN : 100 ≤ N) {l : Nat} (hl : l ≤ 5) : ∀ {zs : List (List P2)}, (∀ z ∈ zs, z.length = 2 ^ (l + 1)) →
    ∃ mid, Turned (zs.length * (2 * 2 ^ l)) (en3 zs) mid ∧ Turned (zs.length * 2 ^ l) mid (en3 (zs.map fun w => tab (2 ^ l) fun k => (unS N (2 ^ (l + 1)) k (w.getD k pz) (w.getD (k + 2 ^ l) pz)).1) + en3 (zs.map fun w => tab (2 ^ l) fun k => (unS N (2 ^ (l + 1)) k (w.getD k pz) (w.getD (k + 2 ^ l) pz)).2))
  | [], _ => ⟨0, by simpa [en3] using Turned.same (Int.le_refl 0), by simpa [en3] using Turned.same (Int.le_refl 0)⟩
  | z :: r, h => by
    obtain ⟨m1, a1, a2⟩ := unmix_row hN hl (h z (by simp))
    obtain ⟨m2, b1, b2⟩ := unmix_rows hN hl (zs := r) fun u hu => h u (by simp [hu])
    refine ⟨m1 + m2, ?_, ?_⟩
    · have := a1.add b1
      simp only [en3_cons, List.length_cons, Nat.add_mul, Nat.one_mul]
      rw [Nat.add_comm (2 * 2 ^ l)] at this
      exact this
    · have := a2.add b2
      simp only [List.map_cons, en3_cons, List.length_cons, Nat.add_mul, Nat.one_mul]
      rw [Nat.add_comm (2 ^ l)] at this
      rw [Int.add_assoc, Int.add_left_comm (en3 (r.map _)), ← Int.add_assoc]
      exact this
theorem weave {l : Nat} {a b : List P2} (ha : a.length = 2 ^ l) (hb : b.length = 2 ^ l) : en2 (tab (2 ^ (l + 1)) fun j => if j % 2 = 0 then a.getD (j / 2) pz else b.getD (j / 2) pz) = en2 a + en2 b := by
  have hpp : 2 ^ (l + 1) = 2 * 2 ^ l := by rw [Nat.pow_succ]; omega
  rw [en2_tab, hpp, sT_pairs, sT_add, en2_of ha, en2_of hb]
  congr 1
  · exact sT_ext fun k _ => by rw [if_pos (by omega), show 2 * k / 2 = k by omega]
  · exact sT_ext fun k _ => by rw [if_neg (by omega), show (2 * k + 1) / 2 = k by omega]
theorem weave3 {N l : Nat} : ∀ {zs : List (List P2)}, en3 (zs.map (unmix N (l + 1))) =
    en3 ((zs.map fun w => tab (2 ^ l) fun k => (unS N (2 ^ (l + 1)) k (w.getD k pz) (w.getD (k + 2 ^ l) pz)).1).map (unmix N l)) + en3 ((zs.map fun w => tab (2 ^ l) fun k => (unS N (2 ^ (l + 1)) k (w.getD k pz) (w.getD (k + 2 ^ l) pz)).2).map (unmix N l))
  | [] => rfl
  | z :: r => by
    simp only [List.map_cons, en3_cons]
    rw [weave3 (zs := r)]
    have := weave (l := l) (unmix_len N l _ (tab_len (2 ^ l) fun k => (unS N (2 ^ (l + 1)) k (z.getD k pz) (z.getD (k + 2 ^ l) pz)).1)) (unmix_len N l _ (tab_len (2 ^ l) fun k => (unS N (2 ^ (l + 1)) k (z.getD k pz) (z.getD (k + 2 ^ l) pz)).2))
    have e : en2 (unmix N (l + 1) z) = _ := this
    rw [e]
    omega
theorem unmix_fam {N : Nat} (hN : 100 ≤ N) {C : Int} (hC : 1 ≤ C) : ∀ (l : Nat) (zs : List (List P2)) (B : Int), l ≤ 6 → (∀ z ∈ zs, z.length = 2 ^ l) → 1 ≤ B → ((zs.length * 2 ^ l : Nat) : Int) ≤ C * C → en3 zs ≤ B * B →
    en3 (zs.map (unmix N l)) ≤ stgs (2 * l) C B * stgs (2 * l) C B
  | 0, zs, B, _, _, _, _, h => by
    have : zs.map (unmix N 0) = zs := by
      rw [show unmix N 0 = id from rfl, List.map_id]
    rw [this]; exact h
  | l + 1, zs, B, hl, hz, hB, hn, h => by
    have hpp : 2 ^ (l + 1) = 2 * 2 ^ l := by rw [Nat.pow_succ]; omega
    obtain ⟨mid, m1, m2⟩ := unmix_rows hN (by omega) hz
    have n1 : ((zs.length * 2 ^ l : Nat) : Int) ≤ C * C := by
      have : zs.length * 2 ^ l ≤ zs.length * 2 ^ (l + 1) := Nat.mul_le_mul_left _ (by omega)
      omega
    have h1 := m1.stage hB hC h (by rw [← hpp]; exact hn)
    have h2 := m2.stage (stgs_pos hC hB 1) hC h1 n1
    have ih := unmix_fam hN hC l ((zs.map fun w => tab (2 ^ l) fun k => (unS N (2 ^ (l + 1)) k (w.getD k pz) (w.getD (k + 2 ^ l) pz)).1) ++ (zs.map fun w => tab (2 ^ l) fun k => (unS N (2 ^ (l + 1)) k (w.getD k pz) (w.getD (k + 2 ^ l) pz)).2)) (stgs 2 C B) (by omega) (fun z hm => by
      rcases List.mem_append.1 hm with hm | hm
      · obtain ⟨y, _, rfl⟩ := List.mem_map.1 hm; exact tab_len _ _
      · obtain ⟨y, _, rfl⟩ := List.mem_map.1 hm; exact tab_len _ _) (stgs_pos hC hB 2) (by
        rw [List.length_append, List.length_map, List.length_map]
        rw [hpp] at hn
        rw [show (zs.length + zs.length) * 2 ^ l = zs.length * (2 * 2 ^ l) by rw [← Nat.two_mul, Nat.mul_assoc, Nat.mul_left_comm]]
        exact hn) (by rw [en3_app]; exact h2)
    rw [List.map_append, en3_app, ← weave3, stgs_add] at ih
    exact ih
/-! ### Whole transforms -/
def enL (x : List Int) : Int := sT x.length fun k => x.getD k 0 * x.getD k 0
theorem enL_of {x : List Int} {n : Nat} (h : x.length = n) : enL x = sT n fun k => x.getD k 0 * x.getD k 0 := by unfold enL; rw [h]
theorem enL_tab (n : Nat) (f : Nat → Int) : enL (tab n f) = sT n fun k => f k * f k := by
  rw [enL_of (tab_len _ _)]
  exact sT_ext fun k hk => by rw [tab_getD hk]
theorem sT_one_le {f : Nat → Int} : ∀ {n k : Nat}, (∀ k, k < n → 0 ≤ f k) → k < n → f k ≤ sT n f
  | 0, _, _, h => by omega
  | n + 1, k, h0, h => by
    rw [sT_succ]
    have h1 := sT_nonneg (n := n) fun k hk => h0 k (by omega)
    have h2 := h0 n (by omega)
    rcases Nat.lt_or_ge k n with hk | hk
    · have := sT_one_le (n := n) (fun k hk => h0 k (by omega)) hk
      omega
    · obtain rfl : k = n := by omega
      omega
theorem enL_at {x : List Int} {k : Nat} (h : k < x.length) : x.getD k 0 * x.getD k 0 ≤ enL x := sT_one_le (f := fun k => x.getD k 0 * x.getD k 0) (fun k _ => sq0 _) h
theorem sT_bound {f : Nat → Int} {S : Int} : ∀ {n : Nat}, (∀ k, k < n → f k ≤ S) → sT n f ≤ n * S
  | 0, _ => by rw [sT_zero]; simp
  | n + 1, h => by
    have h1 := sT_bound (n := n) fun k hk => h k (by omega)
    have h2 := h n (by omega)
    have e : ((n + 1 : Nat) : Int) * S = (n : Int) * S + S := by rw [Int.natCast_add, Int.add_mul]; simp
    rw [sT_succ, e]; omega
theorem pre_turned {N : Nat} (hN : 100 ≤ N) {l : Nat} (hl : l ≤ 6) {x : List Int} (hx : x.length = 2 ^ (l + 1)) : Turned (2 ^ l) (enL x) (en2 (preF N (2 ^ (l + 1)) x)) := by
  have hpp : 2 ^ (l + 1) = 2 * 2 ^ l := by rw [Nat.pow_succ]; omega
  have h2 : 2 ^ (l + 1) / 2 = 2 ^ l := by omega
  unfold preF
  rw [enL_of (hx.trans hpp), sT_ends, en2_tab, h2]
  have := turned_sum (m := 1) (P := fun k => x.getD (2 * k) 0 * x.getD (2 * k) 0 + x.getD (2 * 2 ^ l - 1 - 2 * k) 0 * x.getD (2 * 2 ^ l - 1 - 2 * k) 0) (Q := fun k => e2 (pr (tw N (-((8 * k + 1 : Nat) : Int)) ((16 * 2 ^ (l + 1) : Nat) : Int) (x.getD (2 * k) 0) (x.getD (2 ^ (l + 1) - 1 - 2 * k) 0)))) (n := 2 ^ l) fun k hk => by
    obtain ⟨k1, k2⟩ := end_ok (n := 2 ^ (l + 1)) (k := k) rfl (by omega) (by omega)
    rw [← hpp]
    exact tw_turned hN k1 k2 _ _
  rw [Nat.mul_one] at this
  exact this
theorem out_turned {N : Nat} (hN : 100 ≤ N) {l : Nat} (hl : l ≤ 6) {z : List P2} (hz : z.length = 2 ^ l) : Turned (2 ^ l) (en2 z) (enL (tab (2 ^ (l + 1)) (outF N (2 ^ (l + 1)) z))) := by
  have hpp : 2 ^ (l + 1) = 2 * 2 ^ l := by rw [Nat.pow_succ]; omega
  rw [enL_tab, en2_of hz]
  have e : sT (2 ^ (l + 1)) (fun k => outF N (2 ^ (l + 1)) z k * outF N (2 ^ (l + 1)) z k) = sT (2 ^ l) fun k => (endF N (2 ^ (l + 1)) z k).1 * (endF N (2 ^ (l + 1)) z k).1 + (endF N (2 ^ (l + 1)) z k).2 * (endF N (2 ^ (l + 1)) z k).2 := by
    rw [hpp, sT_ends]
    refine sT_ext fun k hk => ?_
    have a1 : outF N (2 * 2 ^ l) z (2 * k) = (endF N (2 * 2 ^ l) z k).1 := by unfold outF; rw [if_pos (by omega), show 2 * k / 2 = k by omega]
    have a2 : outF N (2 * 2 ^ l) z (2 * 2 ^ l - 1 - 2 * k) = -(endF N (2 * 2 ^ l) z k).2 := by unfold outF; rw [if_neg (by omega), show (2 * 2 ^ l - 1 - (2 * 2 ^ l - 1 - 2 * k)) / 2 = k by omega]
    rw [a1, a2, neg_sq]
  rw [e]
  have := turned_sum (m := 1) (P := fun k => e2 (z.getD k pz)) (Q := fun k => (endF N (2 ^ (l + 1)) z k).1 * (endF N (2 ^ (l + 1)) z k).1 + (endF N (2 ^ (l + 1)) z k).2 * (endF N (2 ^ (l + 1)) z k).2) (n := 2 ^ l) fun k hk => by
    obtain ⟨k1, k2⟩ := end_ok (n := 2 ^ (l + 1)) (k := k) rfl (by omega) (by omega)
    exact tw_turned hN k1 k2 _ _
  rw [Nat.mul_one] at this
  exact this
theorem preB_turned {N : Nat} (hN : 100 ≤ N) {l : Nat} (hl : l ≤ 6) {x : List Int} (hx : x.length = 2 ^ (l + 1)) : Turned (2 ^ l) (enL x) (en2 (preB N (2 ^ (l + 1)) x)) := by
  have hpp : 2 ^ (l + 1) = 2 * 2 ^ l := by rw [Nat.pow_succ]; omega
  have h2 : 2 ^ (l + 1) / 2 = 2 ^ l := by omega
  unfold preB
  rw [enL_of (hx.trans hpp), sT_ends, en2_tab, h2]
  have := turned_sum (m := 1) (P := fun k => x.getD (2 * k) 0 * x.getD (2 * k) 0 + x.getD (2 * 2 ^ l - 1 - 2 * k) 0 * x.getD (2 * 2 ^ l - 1 - 2 * k) 0) (Q := fun k => e2 (pr (bk N (-((8 * k + 1 : Nat) : Int)) ((16 * 2 ^ (l + 1) : Nat) : Int) (x.getD (2 * k) 0) (-x.getD (2 ^ (l + 1) - 1 - 2 * k) 0)))) (n := 2 ^ l) fun k hk => by
    obtain ⟨k1, k2⟩ := end_ok (n := 2 ^ (l + 1)) (k := k) rfl (by omega) (by omega)
    rw [← hpp]
    have := bk_turned hN k1 k2 (x.getD (2 * k) 0) (-x.getD (2 ^ (l + 1) - 1 - 2 * k) 0)
    rw [neg_sq] at this
    exact this
  rw [Nat.mul_one] at this
  exact this
theorem outB_turned {N : Nat} (hN : 100 ≤ N) {l : Nat} (hl : l ≤ 6) {z : List P2} (hz : z.length = 2 ^ l) : Turned (2 ^ l) (en2 z) (enL (tab (2 ^ (l + 1)) (outB N (2 ^ (l + 1)) z))) := by
  have hpp : 2 ^ (l + 1) = 2 * 2 ^ l := by rw [Nat.pow_succ]; omega
  rw [enL_tab, en2_of hz]
  have e : sT (2 ^ (l + 1)) (fun k => outB N (2 ^ (l + 1)) z k * outB N (2 ^ (l + 1)) z k) = sT (2 ^ l) fun k => (endB N (2 ^ (l + 1)) z k).1 * (endB N (2 ^ (l + 1)) z k).1 + (endB N (2 ^ (l + 1)) z k).2 * (endB N (2 ^ (l + 1)) z k).2 := by
    rw [hpp, sT_ends]
    refine sT_ext fun k hk => ?_
    have a1 : outB N (2 * 2 ^ l) z (2 * k) = (endB N (2 * 2 ^ l) z k).1 := by unfold outB; rw [if_pos (by omega), show 2 * k / 2 = k by omega]
    have a2 : outB N (2 * 2 ^ l) z (2 * 2 ^ l - 1 - 2 * k) = (endB N (2 * 2 ^ l) z k).2 := by unfold outB; rw [if_neg (by omega), show (2 * 2 ^ l - 1 - (2 * 2 ^ l - 1 - 2 * k)) / 2 = k by omega]
    rw [a1, a2]
  rw [e]
  have := turned_sum (m := 1) (P := fun k => e2 (z.getD k pz)) (Q := fun k => (endB N (2 ^ (l + 1)) z k).1 * (endB N (2 ^ (l + 1)) z k).1 + (endB N (2 ^ (l + 1)) z k).2 * (endB N (2 ^ (l + 1)) z k).2) (n := 2 ^ l) fun k hk => by
    obtain ⟨k1, k2⟩ := end_ok (n := 2 ^ (l + 1)) (k := k) rfl (by omega) (by omega)
    exact bk_turned hN k1 k2 _ _
  rw [Nat.mul_one] at this
  exact this
theorem fwd_en {N : Nat} (hN : 100 ≤ N) {l : Nat} (hl : l ≤ 6) {x : List Int} (hx : x.length = 2 ^ (l + 1)) {B C : Int} (hB : 1 ≤ B) (hC : 1 ≤ C) (hn : ((2 ^ l : Nat) : Int) ≤ C * C) (h : enL x ≤ B * B) : enL (fwd N l x) ≤ stgs (2 * l + 2) C B * stgs (2 * l + 2) C B := by
  have h1 := (pre_turned hN hl hx).stage hB hC h hn
  have h2 := mix_fam hN hC l [preF N (2 ^ (l + 1)) x] (stgs 1 C B) hl (by simp [pre_len]) (stgs_pos hC hB 1) (by simpa using hn) (by rw [en3_one]; exact h1)
  rw [List.map_cons, List.map_nil, en3_one, stgs_add] at h2
  exact (out_turned hN hl (mix_len N l _ (pre_len N l x))).stage (stgs_pos hC hB _) hC h2 hn
theorem inv_en {N : Nat} (hN : 100 ≤ N) {l : Nat} (hl : l ≤ 6) {x : List Int} (hx : x.length = 2 ^ (l + 1)) {B C : Int} (hB : 1 ≤ B) (hC : 1 ≤ C) (hn : ((2 ^ l : Nat) : Int) ≤ C * C) (h : enL x ≤ B * B) : enL (inv N l x) ≤ stgs (2 * l + 2) C B * stgs (2 * l + 2) C B := by
  have h1 := (preB_turned hN hl hx).stage hB hC h hn
  have h2 := unmix_fam hN hC l [preB N (2 ^ (l + 1)) x] (stgs 1 C B) hl (by simp [preB_len]) (stgs_pos hC hB 1) (by simpa using hn) (by rw [en3_one]; exact h1)
  rw [List.map_cons, List.map_nil, en3_one, stgs_add] at h2
  exact (outB_turned hN hl (unmix_len N l _ (preB_len N l x))).stage (stgs_pos hC hB _) hC h2 hn
end Go.Sh.c07

namespace Go.Sh.c07
open p06 (Bd inR inR_iff isQ isQ_iff sc fwT bkT Fac ofN OfOk of_ok fwT_grows bkT_grows sq0 le_of_sq sq_le)

/-! ### Values -/
theorem hlf_512 : p03.hlf 512 = 1614 := by decide +kernel
theorem sT_512 : p03.tld (p03.sC 512) = 3196 := by decide +kernel
theorem of_m1_32 {N : Nat} (hN : 100 ≤ N) : ofN N (-1) 32 = (4, (-1614, (-3196, ()))) := by
  obtain ⟨q, a, sg, hc, hg, e1, _⟩ := p06.of_eq hN (n := -1) (p := 5) (by omega) (by omega) (by omega)
  have e : ofN N (-1) 32 = ((q : Int), (p06.fA 5 a sg, (p06.fB 5 a sg, ()))) := by
    show ofN N (-1) ((2 ^ 5 : Nat) : Int) = _
    unfold ofN; rw [e1]
  have he := hc.e
  have hq := hc.q4
  have hal := hc.al
  have h31 : (-1 : Int) % ((2 ^ 5 : Nat) : Int) = 31 := by decide
  have h32 : ((2 ^ 5 : Nat) : Int) = 32 := by decide
  have h256 : (2 : Nat) ^ (5 + 3) = 256 := by decide
  rw [h31, h32] at he
  rw [h32] at hg
  rw [h256] at hal
  have h1 : q = 4 ∧ sg = -1 ∧ a = 8 := by rcases hc.s with rfl | ⟨rfl, _⟩ <;> omega
  obtain ⟨rfl, rfl, rfl⟩ := h1
  rw [e]
  unfold p06.fA p06.fB p03.sT
  rw [show 8 * 2 ^ (11 - 5) = 512 by decide, hlf_512, sT_512]
  rfl
theorem fwd_ex {N : Nat} (hN : 100 ≤ N) : fwd N 0 [1000, 0] = [924, 383] := by
  have ht : ∀ x y, tw N (-1) 32 x y = fwT (4, (-1614, (-3196, ()))) x y := fun x y => by unfold tw; rw [of_m1_32 hN]
  have h1 : preF N 2 [1000, 0] = [(981, (-195, ()))] := by
    show [pr (tw N (-1) 32 1000 0)] = _
    rw [ht]; decide
  show [(tw N (-1) 32 ((preF N 2 [1000, 0]).getD 0 pz).1 ((preF N 2 [1000, 0]).getD 0 pz).2.1).1, -(tw N (-1) 32 ((preF N 2 [1000, 0]).getD 0 pz).1 ((preF N 2 [1000, 0]).getD 0 pz).2.1).2] = _
  rw [h1, ht]; decide
theorem ints_eq {N : Nat} (hN : 2000 ≤ N) {a b : List Int} (h : a = b) (hl : a.length ≤ 1000) : f13F N a b = some ((), (true, ())) := by
  subst h
  rw [p06.f20_eq _ (by omega) (by omega)]; simp
theorem turns2 {N : Nat} (hN : 2000 ≤ N) : f20F N 2 = some ((), (2, (0, ()))) := by
  obtain ⟨m, rfl⟩ : ∃ m, N = m + 4 := ⟨N - 4, by omega⟩
  unfold f20F
  rw [show (128 : Int) = ((2 ^ 7 : Nat) : Int) from rfl, f24_eq _ (by omega) (by omega), show (decide ((2 : Int) ≤ 2) && szB 7 2) = true by decide]
  simp only [Option.bind_some, Bool.not_true, cond_false]
  have h : f20l0 (m + 4) (m + 4) 2 2 2 = some ((), (2, ())) := by
    rw [f20l0, show (decide ((2 : Int) ≤ IntKind.i64.wrap (Int.tdiv 2 2))) = false by decide]; rfl
  rw [h]; rfl
theorem turns4 {N : Nat} (hN : 2000 ≤ N) : f20F N 4 = some ((), (7, (0, ()))) := by
  obtain ⟨m, rfl⟩ : ∃ m, N = m + 4 := ⟨N - 4, by omega⟩
  unfold f20F
  rw [show (128 : Int) = ((2 ^ 7 : Nat) : Int) from rfl, f24_eq _ (by omega) (by omega), show (decide ((2 : Int) ≤ 4) && szB 7 4) = true by decide]
  simp only [Option.bind_some, Bool.not_true, cond_false]
  have h : f20l0 (m + 4) (m + 4) 4 4 2 = some ((), (7, ())) := by
    rw [f20l0, show (decide ((2 : Int) ≤ IntKind.i64.wrap (Int.tdiv 4 2))) = true by decide, show (!((2 : Int) == 0)) = true by decide]
    simp only [cond_true]
    rw [show IntKind.i64.wrap (4 + IntKind.i64.wrap (IntKind.i64.wrap (Int.tdiv (IntKind.i64.wrap (Int.tdiv 4 2)) 2) * IntKind.i64.wrap (IntKind.i64.wrap (Int.tdiv 2 2) + 2))) = 7 by decide, show IntKind.i64.wrap (2 * 2) = 4 by decide,
      f20l0, show (decide ((4 : Int) ≤ IntKind.i64.wrap (Int.tdiv 4 2))) = false by decide]; rfl
  rw [h]; rfl
theorem awake {N : Nat} (hN : 2000 ≤ N) : f10F N = some ((), (true, ())) := by
  have c1 : f11F N [1000, 0] = some (([924, 383], ()), ((), (0, ()))) := by
    rw [f11_eq hN]
    unfold resF
    rw [show er1 1048576 [1000, 0] = 0 by decide +kernel, if_pos rfl, show lv ([1000, 0] : List Int).length = 0 by decide +kernel, fwd_ex (by omega)]
  have hi : inv N 0 [924, 383] = [1000, 0] := by rw [← fwd_ex (N := N) (by omega)]; exact inv_fwd N 0 rfl
  have c2 : f14F N [924, 383] = some (([1000, 0], ()), ((), (0, ()))) := by
    rw [f14_eq hN]
    unfold resI
    rw [show er1 33554432 [924, 383] = 0 by decide +kernel, if_pos rfl, show lv ([924, 383] : List Int).length = 0 by decide +kernel, hi]
  have c5 : f16F N [5] [-6] = some (([5], ([-6], ())), ((), ((), (0, ())))) := by
    rw [f16_eq hN]
    unfold resM
    rw [show er2 1048576 [5] [-6] = 0 by decide +kernel, if_pos rfl, show lw ([5] : List Int).length = 0 by decide +kernel]
    rfl
  have c6 : f18F N [5] [-6] = some (([5], ([-6], ())), ((), ((), (0, ())))) := by
    rw [f18_eq hN]
    unfold resU
    rw [show er2 33554432 [5] [-6] = 0 by decide +kernel, if_pos rfl, show lw ([5] : List Int).length = 0 by decide +kernel]
    rfl
  unfold f10F
  simp only [c1, c2, turns2 hN, turns4 hN, c5, c6, Option.bind_some, beq_self_eq_true, cond_true, ints_eq hN (a := [924, 383]) rfl (by decide), ints_eq hN (a := [1000, 0]) rfl (by decide), ints_eq hN (a := [5]) rfl (by decide), ints_eq hN (a := [-6]) rfl (by decide)]

/-! ### Laws -/
theorem resF_len (N : Nat) (x : List Int) : (resF N x).1.1.length ≤ 128 := by
  unfold resF
  by_cases e : er1 1048576 x = 0
  · obtain ⟨⟨l, hl, hx⟩, _⟩ := er1_zero e
    simp only [e, if_true]
    rw [fwd_len, hx, lv_eq]
    exact Nat.pow_le_pow_right (show 0 < 2 by omega) (show l + 1 ≤ 7 by omega)
  · simp [e]
theorem resI_len (N : Nat) (x : List Int) : (resI N x).1.1.length ≤ 128 := by
  unfold resI
  by_cases e : er1 33554432 x = 0
  · obtain ⟨⟨l, hl, hx⟩, _⟩ := er1_zero e
    simp only [e, if_true]
    rw [inv_len, hx, lv_eq]
    exact Nat.pow_le_pow_right (show 0 < 2 by omega) (show l + 1 ≤ 7 by omega)
  · simp [e]
theorem dctForward (x : List Int) : f3F 200000 x = some ((), (true, ())) := by
  unfold f3F
  have l1 := resF_len 200000 x
  rw [awake (by omega), f11_eq (by omega), f12_eq (by omega)]
  simp only [Option.bind_some, ints_eq (show 2000 ≤ 200000 by omega) (a := (resF 200000 x).1.1) rfl (by omega), cond_true, beq_self_eq_true]
  by_cases h : (300 : Int) < ((x.length : Nat) : Int) <;> simp [h]
theorem dctInverse (x : List Int) : f4F 200000 x = some ((), (true, ())) := by
  unfold f4F
  have l1 := resI_len 200000 x
  rw [awake (by omega), f14_eq (by omega), f15_eq (by omega)]
  simp only [Option.bind_some, ints_eq (show 2000 ≤ 200000 by omega) (a := (resI 200000 x).1.1) rfl (by omega), cond_true, beq_self_eq_true]
  by_cases h : (300 : Int) < ((x.length : Nat) : Int) <;> simp [h]
theorem resM_len (N : Nat) (a b : List Int) : (resM N a b).1.1.length ≤ 64 ∧ (resM N a b).1.2.1.length ≤ 64 := by
  unfold resM
  by_cases e : er2 1048576 a b = 0
  · obtain ⟨h0, ⟨l, hl, hx⟩, _⟩ := er2_zero e
    rw [if_pos e]
    simp only
    rw [re_len, im_len, mix_len N _ _ (by rw [zp_len, hx, lw_eq]), hx, lw_eq]
    have := Nat.pow_le_pow_right (show 0 < 2 by omega) hl
    exact ⟨this, this⟩
  · simp [e]
theorem resU_len (N : Nat) (a b : List Int) : (resU N a b).1.1.length ≤ 64 ∧ (resU N a b).1.2.1.length ≤ 64 := by
  unfold resU
  by_cases e : er2 33554432 a b = 0
  · obtain ⟨h0, ⟨l, hl, hx⟩, _⟩ := er2_zero e
    rw [if_pos e]
    simp only
    rw [re_len, im_len, unmix_len N _ _ (by rw [zp_len, hx, lw_eq]), hx, lw_eq]
    have := Nat.pow_le_pow_right (show 0 < 2 by omega) hl
    exact ⟨this, this⟩
  · simp [e]
theorem dctMixes (a b : List Int) : f5F 200000 a b = some ((), (true, ())) := by
  unfold f5F
  obtain ⟨l1, l2⟩ := resM_len 200000 a b
  obtain ⟨l3, l4⟩ := resU_len 200000 a b
  rw [awake (by omega)]
  simp only [Option.bind_some]
  by_cases h1 : (150 : Int) < ((a.length : Nat) : Int)
  · simp [h1]
  by_cases h2 : (150 : Int) < ((b.length : Nat) : Int)
  · simp [h1, h2]
  rw [f16_eq (by omega), f17_eq (by omega) (by omega) (by omega), f18_eq (by omega), f19_eq (by omega) (by omega) (by omega)]
  simp only [h1, h2, decide_false, cond_false, Option.bind_some, ints_eq (show 2000 ≤ 200000 by omega) (a := (resM 200000 a b).1.1) rfl (by omega), ints_eq (show 2000 ≤ 200000 by omega) (a := (resM 200000 a b).1.2.1) rfl (by omega), ints_eq (show 2000 ≤ 200000 by omega) (a := (resU 200000 a b).1.1) rfl (by omega), ints_eq (show 2000 ≤ 200000 by omega) (a := (resU 200000 a b).1.2.1) rfl (by omega), cond_true, beq_self_eq_true]
theorem dctTurns (n : Int) : f6F 200000 n = some ((), (true, ())) := by
  have key : ∃ v e, f20F 200000 n = some ((), (v, (e, ()))) ∧ f21F 200000 n = some ((), (v, (e, ()))) := by
    cases h : (decide (2 ≤ n) && szB 7 n) with
    | false =>
      refine ⟨0, 1, ?_, ?_⟩
      · unfold f20F
        rw [show (128 : Int) = ((2 ^ 7 : Nat) : Int) from rfl, f24_eq _ (by omega) (by omega), h]; rfl
      · unfold f21F
        rw [f22_eq (by omega), h]; rfl
    | true =>
      obtain ⟨t, rfl⟩ : ∃ t : Nat, n = t := ⟨n.toNat, by
        rw [Bool.and_eq_true] at h
        have := of_decide_eq_true h.1
        omega⟩
      obtain ⟨l, hl, rfl⟩ := size_of h
      have hm : ((2 ^ (l + 1) : Nat) : Int) ∈ [2, 4, 8, 16, 32, 64, 128] := by
        obtain rfl | rfl | rfl | rfl | rfl | rfl | rfl : l = 0 ∨ l = 1 ∨ l = 2 ∨ l = 3 ∨ l = 4 ∨ l = 5 ∨ l = 6 := by omega
        all_goals decide
      have := List.all_eq_true.1 turns_all _ hm
      generalize f20F 200000 ((2 ^ (l + 1) : Nat) : Int) = A at this ⊢
      generalize f21F 200000 ((2 ^ (l + 1) : Nat) : Int) = B at this ⊢
      cases A with
      | none => simp at this
      | some a =>
        cases B with
        | none => simp at this
        | some b =>
          obtain ⟨_, a1, a2, _⟩ := a
          obtain ⟨_, b1, b2, _⟩ := b
          simp at this
          obtain ⟨h1, h2, h3⟩ := this
          exact ⟨a1, 0, by rw [h2], by rw [h1, h3]⟩
  obtain ⟨v, e, h1, h2⟩ := key
  unfold f6F
  rw [h1, h2, awake (by omega)]
  simp
/-! ### Undone -/
theorem lim14 {l : Nat} (hl : l ≤ 6) : stgs (2 * l + 2) 8 11863284 ≤ 33554432 := by
  have h := stgs_le (C := 8) (B := 11863284) (by decide) (by decide) (14 - (2 * l + 2)) (2 * l + 2)
  rw [show 2 * l + 2 + (14 - (2 * l + 2)) = 14 by omega] at h
  exact Int.le_trans h (by decide +kernel)
theorem lim14' {l : Nat} (hl : l ≤ 6) : stgs (2 * l) 8 11863284 ≤ 33554432 := Int.le_trans (stgs_le (by decide) (by decide) 2 (2 * l)) (lim14 hl)
theorem all_of {B : Int} (hB : 0 ≤ B) {x : List Int} (h : enL x ≤ B * B) : x.all (inR B) = true := by
  rw [List.all_eq_true]
  intro v hv
  obtain ⟨i, hi, rfl⟩ := List.mem_iff_getElem.1 hv
  have := bd_sq hB (Int.le_trans (enL_at hi) h)
  have e : x.getD i 0 = x[i] := by simp [List.getD, hi]
  rw [e] at this
  exact inR_iff.2 this
theorem sq_mono {a b : Int} (h0 : 0 ≤ a) (h : a ≤ b) : a * a ≤ b * b := Int.mul_le_mul h h h0 (by omega)
theorem enL_le {x : List Int} {B : Int} (hB : 0 ≤ B) (h : x.all (inR B) = true) : enL x ≤ (x.length : Int) * (B * B) := sT_bound fun k _ => sqL_of hB h k
theorem fwd_in {l : Nat} (hl : l ≤ 6) {x : List Int} (hx : x.length = 2 ^ (l + 1)) (h : x.all (inR 1048576) = true) : er1 33554432 (fwd 200000 l x) = 0 := by
  have h7 : 2 ^ (l + 1) ≤ 2 ^ 7 := Nat.pow_le_pow_right (by omega) (by omega)
  have h6 : 2 ^ l ≤ 2 ^ 6 := Nat.pow_le_pow_right (by omega) (by omega)
  have hE := enL_le (by decide) h
  have hb : enL x ≤ 11863284 * 11863284 := by omega
  have he := fwd_en (N := 200000) (by omega) hl hx (B := 11863284) (C := 8) (by decide) (by decide) (by omega) hb
  have hp := stgs_pos (C := 8) (B := 11863284) (by decide) (by decide) (2 * l + 2)
  have ha := all_of (B := 33554432) (by decide) (Int.le_trans he (sq_mono (by omega) (lim14 hl)))
  unfold er1
  rw [fwd_len, if_pos (is_size l hl), if_pos ha]
theorem e2_at {z : List P2} {k : Nat} (h : k < z.length) : e2 (z.getD k pz) ≤ en2 z := sT_one_le (f := fun k => e2 (z.getD k pz)) (fun k _ => e2_nonneg _) h
theorem row_in {B : Int} (hB : 0 ≤ B) {z : List P2} (h : en2 z ≤ B * B) : (re z).all (inR B) = true ∧ (im z).all (inR B) = true := by
  constructor
  · rw [List.all_eq_true]
    intro v hv
    obtain ⟨i, hi, rfl⟩ := List.mem_iff_getElem.1 hv
    rw [re_len] at hi
    have h1 := e2_at hi
    have h2 := sq0 (z.getD i pz).2.1
    have := bd_sq (x := (z.getD i pz).1) hB (by unfold e2 at h1; omega)
    rw [← re_at z hi] at this
    have e : (re z).getD i 0 = (re z)[i]'(by rw [re_len]; exact hi) := by simp [List.getD, re_len, hi]
    rw [e] at this
    exact inR_iff.2 this
  · rw [List.all_eq_true]
    intro v hv
    obtain ⟨i, hi, rfl⟩ := List.mem_iff_getElem.1 hv
    rw [im_len] at hi
    have h1 := e2_at hi
    have h2 := sq0 (z.getD i pz).1
    have := bd_sq (x := (z.getD i pz).2.1) hB (by unfold e2 at h1; omega)
    rw [← im_at z hi] at this
    have e : (im z).getD i 0 = (im z)[i]'(by rw [im_len]; exact hi) := by simp [List.getD, im_len, hi]
    rw [e] at this
    exact inR_iff.2 this
theorem mix_in {l : Nat} (hl : l ≤ 6) {a b : List Int} (h0 : a.length = b.length) (ha : a.length = 2 ^ l) (h1 : a.all (inR 1048576) = true) (h2 : b.all (inR 1048576) = true) :
    er2 33554432 (re (mix 200000 l (zp a b))) (im (mix 200000 l (zp a b))) = 0 := by
  have h6 : 2 ^ l ≤ 2 ^ 6 := Nat.pow_le_pow_right (by omega) hl
  have hz : (zp a b).length = 2 ^ l := by rw [zp_len, ha]
  have hs := zp_sq (B := 1048576) (by decide) h1 h2
  have hE : en2 (zp a b) ≤ ((2 ^ l : Nat) : Int) * (2 * (1048576 * 1048576)) := by
    rw [en2_of hz]
    exact sT_bound fun k _ => by have := hs k; unfold e2; omega
  have he := mix_fam (N := 200000) (by omega) (C := 8) (by decide) l [zp a b] 11863284 hl (by simp [hz]) (by decide) (by rw [List.length_singleton, Nat.one_mul]; omega) (by rw [en3_one]; omega)
  rw [List.map_cons, List.map_nil, en3_one] at he
  have hp := stgs_pos (C := 8) (B := 11863284) (by decide) (by decide) (2 * l)
  obtain ⟨r1, r2⟩ := row_in (B := 33554432) (by decide) (Int.le_trans he (sq_mono (by omega) (lim14' hl)))
  have hml := mix_len 200000 l _ hz
  unfold er2
  rw [re_len, im_len, hml, if_pos ⟨rfl, szB_iff.2 ⟨l, hl, rfl⟩⟩, r1, r2]
  rfl
theorem dctUndone (x a b : List Int) : f7F 200000 x a b = some ((), (true, ())) := by
  unfold f7F
  simp only [awake (show 2000 ≤ 200000 by omega), Option.bind_some]
  by_cases h1 : (300 : Int) < ((x.length : Nat) : Int)
  · simp [h1]
  by_cases h2 : (150 : Int) < ((a.length : Nat) : Int)
  · simp [h1, h2]
  by_cases h3 : (150 : Int) < ((b.length : Nat) : Int)
  · simp [h1, h2, h3]
  have hF : ∀ e, er1 1048576 x = e → f11F 200000 x = some (((if e = 0 then fwd 200000 (lv x.length) x else []), ()), ((), (e, ()))) := fun e he => by rw [f11_eq (by omega)]; unfold resF; rw [he]
  have hM : ∃ m, f16F 200000 a b = some m ∧ (m.2.2.2.1 = 0 → f18F 200000 m.1.1 m.1.2.1 = some ((a, (b, ())), ((), ((), (0, ())))) ∧ (a.length = 1 → m.1.1 = a ∧ m.1.2.1 = b)) := by
    refine ⟨_, f16_eq (by omega) a b, fun h0 => ?_⟩
    have e : er2 1048576 a b = 0 := by
      unfold resM at h0
      by_cases e : er2 1048576 a b = 0
      · exact e
      · rw [if_neg e] at h0; exact h0
    obtain ⟨k0, ⟨l, hl, kx⟩, k1, k2⟩ := er2_zero e
    have hz : (zp a b).length = 2 ^ l := by rw [zp_len, kx]
    have hm := mix_in hl k0 kx k1 k2
    unfold resM
    rw [if_pos e, kx, lw_eq]
    simp only
    refine ⟨?_, fun h => ?_⟩
    · rw [f18_eq (by omega)]
      unfold resU
      rw [if_pos hm, re_len, mix_len 200000 l _ hz, lw_eq, zp_re_im, unmix_mix 200000 l _ hz, re_zp, im_zp k0]
    · have hl0 : l = 0 := by
        rcases Nat.eq_zero_or_pos l with h' | h'
        · exact h'
        · have := Nat.pow_lt_pow_right (show 1 < 2 by omega) h'
          omega
      subst hl0
      exact ⟨re_zp a b, im_zp k0⟩
  obtain ⟨m, m1, m2⟩ := hM
  have rest : ∀ K : Option (Unit × (Bool × Unit)), K = some ((), (true, ())) →
      (bif m.2.2.2.1 == 0 then (f18F 200000 m.1.1 m.1.2.1).bind fun y8 => bif y8.2.2.2.1 != 0 then some ((), (false, ())) else ((f13F 200000 y8.1.1 a).bind fun y9 => bif !y9.2.1 then some ((), (false, ())) else ((f13F 200000 y8.1.2.1 b).bind fun y10 => bif !y10.2.1 then some ((), (false, ())) else (bif ((a.length : Nat) : Int) == 1 then ((f13F 200000 m.1.1 a).bind fun y11 => bif !y11.2.1 then some ((), (false, ())) else ((f13F 200000 m.1.2.1 b).bind fun y12 => bif !y12.2.1 then some ((), (false, ())) else K)) else K))) else K) = some ((), (true, ())) := fun K hK => by
    by_cases e : m.2.2.2.1 = 0
    · obtain ⟨q1, q2⟩ := m2 e
      have e' : (m.2.2.2.1 == 0) = true := by simpa using e
      simp only [e', cond_true, q1, Option.bind_some, bne_self_eq_false, cond_false, ints_eq (show 2000 ≤ 200000 by omega) (a := a) (b := a) rfl (by omega), ints_eq (show 2000 ≤ 200000 by omega) (a := b) (b := b) rfl (by omega), Bool.not_true]
      by_cases ha : a.length = 1
      · obtain ⟨q3, q4⟩ := q2 ha
        rw [q3, q4]
        simp only [ha, Int.natCast_one, beq_self_eq_true, cond_true, ints_eq (show 2000 ≤ 200000 by omega) (a := a) (b := a) rfl (by omega), ints_eq (show 2000 ≤ 200000 by omega) (a := b) (b := b) rfl (by omega), Option.bind_some, Bool.not_true, cond_false]
        exact hK
      · have : (((a.length : Nat) : Int) == 1) = false := beq_eq_false_iff_ne.2 (by omega)
        rw [this]
        exact hK
    · have e' : (m.2.2.2.1 == 0) = false := by simpa using e
      rw [e']; exact hK
  have hrest := rest _ rfl
  by_cases e : er1 1048576 x = 0
  · obtain ⟨⟨l, hl, hx⟩, hr⟩ := er1_zero e
    have hi := fwd_in hl hx hr
    have h14 : f14F 200000 (fwd 200000 l x) = some ((x, ()), ((), (0, ()))) := by
      rw [f14_eq (by omega)]
      unfold resI
      rw [hi, if_pos rfl, fwd_len, lv_eq, inv_fwd 200000 l hx]
    simp only [h1, h2, h3, decide_false, cond_false, hF 0 e, if_true, Option.bind_some, beq_self_eq_true, cond_true, hx, lv_eq, h14, bne_self_eq_false, ints_eq (show 2000 ≤ 200000 by omega) (a := x) (b := x) rfl (by omega), Bool.not_true, m1]
    rw [hx] at h1
    simp only [h1, decide_false, cond_false]
    exact hrest
  · have e' : (er1 1048576 x == 0) = false := by simpa using e
    simp only [h1, h2, h3, decide_false, cond_false, hF _ rfl, Option.bind_some, e', m1]
    exact hrest
end Go.Sh.c07
