/- Chapter 7: mixed rows told by two lists; how many turns; what shows that the code is at work. -/
import Derived.Test.YtnmmpceohkpaiaaPlainC
set_option linter.unusedVariables false
set_option linter.unusedSimpArgs false
namespace Go.Sh.c07
open p06 (Bd inR inR_iff isQ isQ_iff sc fwT bkT Fac ofN OfOk of_ok fwT_grows bkT_grows sq0 le_of_sq sq_le)

def zp (a b : List Int) : List P2 := tab a.length fun k => (a.getD k 0, (b.getD k 0, ()))
theorem zp_len (a b : List Int) : (zp a b).length = a.length := tab_len _ _
theorem f35l1_eq {N : Nat} {a b : List Int} (hl : a.length ≤ 1000) (h : a.length = b.length) (hN : 2000 ≤ N) : f35l1 N N (List.replicate a.length pz) a b (a.length : Int) 0 = some ((zp a b, ()), ((), ())) := by
  obtain ⟨s, h1, h2⟩ := idx_loop (m := a.length) (f := fun n (s : List P2) k => f35l1 N n s a b (a.length : Int) (k : Int)) (fun k s => Wr pz a.length (fun k => (a.getD k 0, (b.getD k 0, ()))) k s) (fun k s => s.set k (a.getD k 0, (b.getD k 0, ()))) (fin := fun s => some ((s, ()), ((), ()))) (fun n k s hk hw => by
    refine ⟨?_, hw.set hk⟩
    have hs := hw.1
    simp only [f35l1, show (0 : Int) ≤ (k : Int) by omega, show (k : Int) < (a.length : Int) by omega, show (k : Int) < (b.length : Int) by omega, show (k : Int) < (s.length : Int) by omega, decide_true, Bool.and_self, cond_true, Int.toNat_natCast]
    rw [w64s k (by omega), bindS]) (fun n s _ => by
    have c1 : ¬ (a.length : Int) < (a.length : Int) := by omega
    simp only [f35l1, c1, decide_false, cond_false]) (N := N) (by omega) (s0 := List.replicate a.length pz) (Wr.zero (by simp))
  rw [h1.all] at h2
  exact h2
theorem f35v1l1_eq {N : Nat} {a b : List Int} (hl : a.length ≤ 1000) (h : a.length = b.length) (hN : 2000 ≤ N) : f35v1l1 N N (List.replicate a.length pz) a b (a.length : Int) 0 = some ((zp a b, ()), ((), ())) := by
  obtain ⟨s, h1, h2⟩ := idx_loop (m := a.length) (f := fun n (s : List P2) k => f35v1l1 N n s a b (a.length : Int) (k : Int)) (fun k s => Wr pz a.length (fun k => (a.getD k 0, (b.getD k 0, ()))) k s) (fun k s => s.set k (a.getD k 0, (b.getD k 0, ()))) (fin := fun s => some ((s, ()), ((), ()))) (fun n k s hk hw => by
    refine ⟨?_, hw.set hk⟩
    have hs := hw.1
    simp only [f35v1l1, show (0 : Int) ≤ (k : Int) by omega, show (k : Int) < (a.length : Int) by omega, show (k : Int) < (b.length : Int) by omega, show (k : Int) < (s.length : Int) by omega, decide_true, Bool.and_self, cond_true, Int.toNat_natCast]
    rw [w64s k (by omega), bindS]) (fun n s _ => by
    have c1 : ¬ (a.length : Int) < (a.length : Int) := by omega
    simp only [f35v1l1, c1, decide_false, cond_false]) (N := N) (by omega) (s0 := List.replicate a.length pz) (Wr.zero (by simp))
  rw [h1.all] at h2
  exact h2
theorem f35l3_eq {N : Nat} {z : List P2} (hl : z.length ≤ 1000) (hN : 2000 ≤ N) : f35l3 N N [] [] z (z.length : Int) 0 = some ((re z, (im z, ())), ((), ((), ()))) := by
  obtain ⟨s, h1, h2⟩ := idx_loop (m := z.length) (f := fun n (s : List Int × List Int) k => f35l3 N n s.1 s.2 z (z.length : Int) (k : Int)) (fun k s => s.1 = tab k (fun k => (z.getD k pz).1) ∧ s.2 = tab k (fun k => (z.getD k pz).2.1)) (fun k s => (s.1 ++ [(z.getD k pz).1], s.2 ++ [(z.getD k pz).2.1])) (fin := fun s => some ((s.1, (s.2, ())), ((), ((), ())))) (fun n k s hk hw => by
    refine ⟨?_, by rw [hw.1, tab_succ], by rw [hw.2, tab_succ]⟩
    have l1 : s.1.length = k := by rw [hw.1, tab_len]
    have l2 : s.2.length = k := by rw [hw.2, tab_len]
    simp only [f35l3, show (0 : Int) ≤ (k : Int) by omega, show (k : Int) < (z.length : Int) by omega, List.length_cons, List.length_nil, show (s.1.length + (0 + 1)) * 8 ≤ 140737488355328 by omega, show (s.2.length + (0 + 1)) * 8 ≤ 140737488355328 by omega, decide_true, Bool.and_self, cond_true, Int.toNat_natCast]
    rw [w64s k (by omega), bindS]
    rfl) (fun n s _ => by
    have c1 : ¬ (z.length : Int) < (z.length : Int) := by omega
    simp only [f35l3, c1, decide_false, cond_false]) (N := N) (by omega) (s0 := ([], [])) ⟨rfl, rfl⟩
  rw [h1.1, h1.2, ← re_eq rfl, ← im_eq rfl] at h2
  exact h2
theorem f35v1l3_eq {N : Nat} {z : List P2} (hl : z.length ≤ 1000) (hN : 2000 ≤ N) : f35v1l3 N N [] [] z (z.length : Int) 0 = some ((re z, (im z, ())), ((), ((), ()))) := by
  obtain ⟨s, h1, h2⟩ := idx_loop (m := z.length) (f := fun n (s : List Int × List Int) k => f35v1l3 N n s.1 s.2 z (z.length : Int) (k : Int)) (fun k s => s.1 = tab k (fun k => (z.getD k pz).1) ∧ s.2 = tab k (fun k => (z.getD k pz).2.1)) (fun k s => (s.1 ++ [(z.getD k pz).1], s.2 ++ [(z.getD k pz).2.1])) (fin := fun s => some ((s.1, (s.2, ())), ((), ((), ())))) (fun n k s hk hw => by
    refine ⟨?_, by rw [hw.1, tab_succ], by rw [hw.2, tab_succ]⟩
    have l1 : s.1.length = k := by rw [hw.1, tab_len]
    have l2 : s.2.length = k := by rw [hw.2, tab_len]
    simp only [f35v1l3, show (0 : Int) ≤ (k : Int) by omega, show (k : Int) < (z.length : Int) by omega, List.length_cons, List.length_nil, show (s.1.length + (0 + 1)) * 8 ≤ 140737488355328 by omega, show (s.2.length + (0 + 1)) * 8 ≤ 140737488355328 by omega, decide_true, Bool.and_self, cond_true, Int.toNat_natCast]
    rw [w64s k (by omega), bindS]
    rfl) (fun n s _ => by
    have c1 : ¬ (z.length : Int) < (z.length : Int) := by omega
    simp only [f35v1l3, c1, decide_false, cond_false]) (N := N) (by omega) (s0 := ([], [])) ⟨rfl, rfl⟩
  rw [h1.1, h1.2, ← re_eq rfl, ← im_eq rfl] at h2
  exact h2
/-- The errors of two lists. -/
def er2 (B : Int) (a b : List Int) : Int := if a.length = b.length ∧ szB 6 (a.length : Int) = true then if (a.all (inR B) && b.all (inR B)) = true then 0 else 6 else 1
theorem sz6 (n : Nat) : (decide (1 ≤ (n : Int)) && szB 6 (n : Int)) = szB 6 (n : Int) := by
  cases h : szB 6 (n : Int) with
  | false => simp
  | true =>
    obtain ⟨p, hp, e⟩ := szB_iff.1 h
    have : 0 < 2 ^ p := Nat.pow_pos (by omega)
    simp
    omega
theorem sz6_of {n : Nat} (h : szB 6 (n : Int) = true) : ∃ l, l ≤ 6 ∧ n = 2 ^ l := by
  obtain ⟨p, hp, e⟩ := szB_iff.1 h
  exact ⟨p, hp, by omega⟩
theorem er2_zero {B : Int} {a b : List Int} (h : er2 B a b = 0) : a.length = b.length ∧ (∃ l, l ≤ 6 ∧ a.length = 2 ^ l) ∧ a.all (inR B) = true ∧ b.all (inR B) = true := by
  unfold er2 at h
  by_cases h1 : a.length = b.length ∧ szB 6 (a.length : Int) = true
  · by_cases h2 : (a.all (inR B) && b.all (inR B)) = true
    · have h2' := h2
      rw [Bool.and_eq_true] at h2'
      exact ⟨h1.1, sz6_of h1.2, h2'.1, h2'.2⟩
    · rw [if_pos h1, if_neg h2] at h; omega
  · rw [if_neg h1] at h; omega
theorem zp_sq {B : Int} (hB : 0 ≤ B) {a b : List Int} (ha : a.all (inR B) = true) (hb : b.all (inR B) = true) : Sq (B * B) (zp a b) :=
  sq_tab (sq0 B) fun k _ => ⟨sqL_of hB ha k, sqL_of hB hb k⟩
theorem it_m {l : Nat} (hl : l ≤ 6) : itS (2 * l) 1099511627776 ≤ 1152921504606846976 := by
  have h1 := itS_le (S := 1099511627776) (by decide) (12 - 2 * l) (2 * l)
  rw [show 2 * l + (12 - 2 * l) = 12 by omega] at h1
  exact Int.le_trans h1 (by decide +kernel)
theorem it_u {l : Nat} (hl : l ≤ 6) : itS (2 * l) 1125899906842624 ≤ 18446744073709551616 := by
  have h1 := itS_le (S := 1125899906842624) (by decide) (12 - 2 * l) (2 * l)
  rw [show 2 * l + (12 - 2 * l) = 12 by omega] at h1
  exact Int.le_trans h1 (by decide +kernel)
def lw (n : Nat) : Nat := Nat.log2 n
theorem lw_eq (l : Nat) : lw (2 ^ l) = l := Nat.log2_two_pow
abbrev R2 := ((List Int) × ((List Int) × Unit)) × (Unit × (Unit × (Int × Unit)))
def resM (N : Nat) (a b : List Int) : R2 := if er2 1048576 a b = 0 then ((re (mix N (lw a.length) (zp a b)), (im (mix N (lw a.length) (zp a b)), ())), ((), ((), (0, ())))) else (([], ([], ())), ((), ((), (er2 1048576 a b, ()))))
def resU (N : Nat) (a b : List Int) : R2 := if er2 33554432 a b = 0 then ((re (unmix N (lw a.length) (zp a b)), (im (unmix N (lw a.length) (zp a b)), ())), ((), ((), (0, ())))) else (([], ([], ())), ((), ((), (er2 33554432 a b, ()))))
theorem f35_eq {N : Nat} (hN : 2000 ≤ N) (a b : List Int) (bb : Bool) (u : Unit × Unit) (u1 u2 : Unit) : f35F N a b 1048576 (((bb, (u, ())), u1), u2) = some (resM N a b) := by
  unfold f35F resM er2
  by_cases h0 : a.length = b.length
  · have c0 : (((a.length : Nat) : Int) != ((b.length : Nat) : Int)) = false := by rw [h0]; exact bne_self_eq_false _
    rw [c0, show (64 : Int) = ((2 ^ 6 : Nat) : Int) from rfl, f24_eq N (by omega) (by omega), sz6]
    simp only [cond_false, Option.bind_some]
    cases h1 : szB 6 (a.length : Int) with
    | false => simp [h0]
    | true =>
      obtain ⟨l, hl, hx⟩ := sz6_of h1
      have hp : 2 ^ l ≤ 2 ^ 6 := Nat.pow_le_pow_right (by omega) (by omega)
      rw [f25_eq hN (by decide) (by decide) (by simp) (by simp; omega)]
      simp only [Bool.not_true, cond_false, Option.bind_some, List.all_cons, List.all_nil, Bool.and_true]
      cases h2 : (a.all (inR 1048576) && b.all (inR 1048576)) with
      | false => simp [h0]
      | true =>
        have h2' := h2
        rw [Bool.and_eq_true] at h2'
        have d1 : ((a.length : Nat) : Int) * 16 ≤ 140737488355328 := by omega
        have d2 : (0 : Int) ≤ ((a.length : Nat) : Int) := by omega
        have hz : (zp a b).length = 2 ^ l := by rw [zp_len, hx]
        have r1 := f35l1_eq (N := N) (a := a) (b := b) (by omega) h0 hN
        have r2 := f29_eq hN bb u (S := 1099511627776) (by decide) hl hz (zp_sq (B := 1048576) (by decide) h2'.1 h2'.2) (it_m hl)
        have hm := mix_len N l _ hz
        have r3 := f35l3_eq (N := N) (z := mix N l (zp a b)) (by omega) hN
        simp only [Bool.not_true, cond_false, d1, d2, beq_self_eq_true, decide_true, Bool.and_self, cond_true, Int.toNat_natCast, List.length_replicate]
        rw [r1]
        simp only [Option.bind_some]
        rw [r2]
        simp only [Option.bind_some]
        rw [r3, if_pos (show (if a.length = b.length ∧ True then if True then (0 : Int) else 6 else 1) = 0 by simp [h0]), hx, lw_eq]
        rfl
  · have c0 : (((a.length : Nat) : Int) != ((b.length : Nat) : Int)) = true := by
      have : ¬ ((a.length : Nat) : Int) = ((b.length : Nat) : Int) := by omega
      simpa using this
    simp [c0, h0]
theorem f35v1_eq {N : Nat} (hN : 2000 ≤ N) (a b : List Int) (bb : Bool) (u : Unit × Unit) (u1 u2 : Unit) : f35v1F N a b 33554432 (((bb, (u, ())), u1), u2) = some (resU N a b) := by
  unfold f35v1F resU er2
  by_cases h0 : a.length = b.length
  · have c0 : (((a.length : Nat) : Int) != ((b.length : Nat) : Int)) = false := by rw [h0]; exact bne_self_eq_false _
    rw [c0, show (64 : Int) = ((2 ^ 6 : Nat) : Int) from rfl, f24_eq N (by omega) (by omega), sz6]
    simp only [cond_false, Option.bind_some]
    cases h1 : szB 6 (a.length : Int) with
    | false => simp [h0]
    | true =>
      obtain ⟨l, hl, hx⟩ := sz6_of h1
      have hp : 2 ^ l ≤ 2 ^ 6 := Nat.pow_le_pow_right (by omega) (by omega)
      rw [f25_eq hN (by decide) (by decide) (by simp) (by simp; omega)]
      simp only [Bool.not_true, cond_false, Option.bind_some, List.all_cons, List.all_nil, Bool.and_true]
      cases h2 : (a.all (inR 33554432) && b.all (inR 33554432)) with
      | false => simp [h0]
      | true =>
        have h2' := h2
        rw [Bool.and_eq_true] at h2'
        have d1 : ((a.length : Nat) : Int) * 16 ≤ 140737488355328 := by omega
        have d2 : (0 : Int) ≤ ((a.length : Nat) : Int) := by omega
        have hz : (zp a b).length = 2 ^ l := by rw [zp_len, hx]
        have r1 := f35v1l1_eq (N := N) (a := a) (b := b) (by omega) h0 hN
        have r2 := f33_eq hN bb u l N 1125899906842624 (zp a b) (by decide) hl (by omega) hz (zp_sq (B := 33554432) (by decide) h2'.1 h2'.2) (it_u hl)
        have hm := unmix_len N l _ hz
        have r3 := f35v1l3_eq (N := N) (z := unmix N l (zp a b)) (by omega) hN
        simp only [Bool.not_true, cond_false, d1, d2, beq_self_eq_true, decide_true, Bool.and_self, cond_true, Int.toNat_natCast, List.length_replicate]
        rw [r1]
        simp only [Option.bind_some]
        rw [r2]
        simp only [Option.bind_some]
        rw [r3, if_pos (show (if a.length = b.length ∧ True then if True then (0 : Int) else 6 else 1) = 0 by simp [h0]), hx, lw_eq]
        rfl
  · have c0 : (((a.length : Nat) : Int) != ((b.length : Nat) : Int)) = true := by
      have : ¬ ((a.length : Nat) : Int) = ((b.length : Nat) : Int) := by omega
      simpa using this
    simp [c0, h0]
theorem f16_eq {N : Nat} (hN : 2000 ≤ N) (a b : List Int) : f16F N a b = some (resM N a b) := by
  unfold f16F f26F
  simp only [Option.bind_some]
  rw [f35_eq hN]; rfl
theorem f18_eq {N : Nat} (hN : 2000 ≤ N) (a b : List Int) : f18F N a b = some (resU N a b) := by
  unfold f18F f32F
  simp only [Option.bind_some]
  rw [f35v1_eq hN]; rfl
/-! ### How many turns -/
end Go.Sh.c07

namespace Go.Sh.c07
open p06 (Bd inR inR_iff isQ isQ_iff sc fwT bkT Fac ofN OfOk of_ok fwT_grows bkT_grows sq0 le_of_sq sq_le)

/-! ### So many turns of pairs, and their squares -/
def Turned (n : Nat) (p q : Int) : Prop := ∃ u c v : Int, 19342813113834066795298816 * q = u + 2 * c + v ∧ (∀ G W : Int, 2 * (G * W * c) ≤ G * G * u + W * W * v) ∧ u ≤ 19346354888696219029209088 * p ∧ v ≤ 43521329506126650289422336 * n
theorem Turned.same {p : Int} (h : 0 ≤ p) : Turned 0 p p := by
  refine ⟨19342813113834066795298816 * p, 0, 0, by omega, fun G W => ?_, by omega, by omega⟩
  have := Int.mul_nonneg (sq0 G) (show 0 ≤ 19342813113834066795298816 * p by omega)
  simp only [Int.mul_zero, Int.add_zero]
  exact this
def e2 (p : P2) : Int := p.1 * p.1 + p.2.1 * p.2.1
/-! ### Sums -/
def sT (n : Nat) (f : Nat → Int) : Int := (tab n f).sum
theorem sT_zero (f : Nat → Int) : sT 0 f = 0 := rfl
/-! ### Rows -/
def en2 (z : List P2) : Int := sT z.length fun k => e2 (z.getD k pz)
def evR (l : Nat) (z : List P2) : List P2 := tab (2 ^ l) fun k => z.getD (2 * k) pz
def odR (l : Nat) (z : List P2) : List P2 := tab (2 ^ l) fun k => z.getD (2 * k + 1) pz
end Go.Sh.c07

namespace Go.Sh.c07
open p06 (Bd inR inR_iff isQ isQ_iff sc fwT bkT Fac ofN OfOk of_ok fwT_grows bkT_grows sq0 le_of_sq sq_le)

def stg (C B : Int) : Int := B + (4 * B + 49152 * C + 32767) / 32768
def stgs : Nat → Int → Int → Int
  | 0, _, B => B
  | k + 1, C, B => stg C (stgs k C B)
def en3 (zs : List (List P2)) : Int := (zs.map en2).sum
/-! ### Whole transforms -/
def enL (x : List Int) : Int := sT x.length fun k => x.getD k 0 * x.getD k 0
end Go.Sh.c07

namespace Go.Sh.c07
open p06 (Bd inR inR_iff isQ isQ_iff sc fwT bkT Fac ofN OfOk of_ok fwT_grows bkT_grows sq0 le_of_sq sq_le)

/-! ### Values -/
theorem hlf_512 : p03.hlf 512 = 1614 := by decide +kernel
theorem sT_512 : p03.tld (p03.sC 512) = 3196 := by decide +kernel
theorem of_m1_32 {N : Nat} (hN : 100 ≤ N) : ofN N (-1) 32 = (4, (-1614, (-3196, ()))) := by
  obtain ⟨q, a, sg, hc, hg, e1, _⟩ := p06.of_eq hN (n := -1) (p := 5) (by omega) (by omega) (by omega)
  have e : ofN N (-1) 32 = ((q : Int), (p06.fA 5 a sg, (p06.fB 5 a sg, ()))) := by
    show ofN N (-1) ((2 ^ 5 : Nat) : Int) = _
    unfold ofN; rw [e1]
  have he := hc.e
  have hq := hc.q4
  have hal := hc.al
  have h31 : (-1 : Int) % ((2 ^ 5 : Nat) : Int) = 31 := by decide
  have h32 : ((2 ^ 5 : Nat) : Int) = 32 := by decide
  have h256 : (2 : Nat) ^ (5 + 3) = 256 := by decide
  rw [h31, h32] at he
  rw [h32] at hg
  rw [h256] at hal
  have h1 : q = 4 ∧ sg = -1 ∧ a = 8 := by rcases hc.s with rfl | ⟨rfl, _⟩ <;> omega
  obtain ⟨rfl, rfl, rfl⟩ := h1
  rw [e]
  unfold p06.fA p06.fB p03.sT
  rw [show 8 * 2 ^ (11 - 5) = 512 by decide, hlf_512, sT_512]
  rfl
theorem fwd_ex {N : Nat} (hN : 100 ≤ N) : fwd N 0 [1000, 0] = [924, 383] := by
  have ht : ∀ x y, tw N (-1) 32 x y = fwT (4, (-1614, (-3196, ()))) x y := fun x y => by unfold tw; rw [of_m1_32 hN]
  have h1 : preF N 2 [1000, 0] = [(981, (-195, ()))] := by
    show [pr (tw N (-1) 32 1000 0)] = _
    rw [ht]; decide
  show [(tw N (-1) 32 ((preF N 2 [1000, 0]).getD 0 pz).1 ((preF N 2 [1000, 0]).getD 0 pz).2.1).1, -(tw N (-1) 32 ((preF N 2 [1000, 0]).getD 0 pz).1 ((preF N 2 [1000, 0]).getD 0 pz).2.1).2] = _
  rw [h1, ht]; decide
theorem ints_eq {N : Nat} (hN : 2000 ≤ N) {a b : List Int} (h : a = b) (hl : a.length ≤ 1000) : f13F N a b = some ((), (true, ())) := by
  subst h
  rw [p06.f20_eq _ (by omega) (by omega)]; simp
theorem turns2 {N : Nat} (hN : 2000 ≤ N) : f20F N 2 = some ((), (2, (0, ()))) := by
  obtain ⟨m, rfl⟩ : ∃ m, N = m + 4 := ⟨N - 4, by omega⟩
  unfold f20F
  rw [show (128 : Int) = ((2 ^ 7 : Nat) : Int) from rfl, f24_eq _ (by omega) (by omega), show (decide ((2 : Int) ≤ 2) && szB 7 2) = true by decide]
  simp only [Option.bind_some, Bool.not_true, cond_false]
  have h : f20l0 (m + 4) (m + 4) 2 2 2 = some ((), (2, ())) := by
    rw [f20l0, show (decide ((2 : Int) ≤ IntKind.i64.wrap (Int.tdiv 2 2))) = false by decide]; rfl
  rw [h]; rfl
theorem turns4 {N : Nat} (hN : 2000 ≤ N) : f20F N 4 = some ((), (7, (0, ()))) := by
  obtain ⟨m, rfl⟩ : ∃ m, N = m + 4 := ⟨N - 4, by omega⟩
  unfold f20F
  rw [show (128 : Int) = ((2 ^ 7 : Nat) : Int) from rfl, f24_eq _ (by omega) (by omega), show (decide ((2 : Int) ≤ 4) && szB 7 4) = true by decide]
  simp only [Option.bind_some, Bool.not_true, cond_false]
  have h : f20l0 (m + 4) (m + 4) 4 4 2 = some ((), (7, ())) := by
    rw [f20l0, show (decide ((2 : Int) ≤ IntKind.i64.wrap (Int.tdiv 4 2))) = true by decide, show (!((2 : Int) == 0)) = true by decide]
    simp only [cond_true]
    rw [show IntKind.i64.wrap (4 + IntKind.i64.wrap (IntKind.i64.wrap (Int.tdiv (IntKind.i64.wrap (Int.tdiv 4 2)) 2) * IntKind.i64.wrap (IntKind.i64.wrap (Int.tdiv 2 2) + 2))) = 7 by decide, show IntKind.i64.wrap (2 * 2) = 4 by decide,
      f20l0, show (decide ((4 : Int) ≤ IntKind.i64.wrap (Int.tdiv 4 2))) = false by decide]; rfl
  rw [h]; rfl
theorem awake {N : Nat} (hN : 2000 ≤ N) : f10F N = some ((), (true, ())) := by
  have c1 : f11F N [1000, 0] = some (([924, 383], ()), ((), (0, ()))) := by
    rw [f11_eq hN]
    unfold resF
    rw [show er1 1048576 [1000, 0] = 0 by decide +kernel, if_pos rfl, show lv ([1000, 0] : List Int).length = 0 by decide +kernel, fwd_ex (by omega)]
  have hi : inv N 0 [924, 383] = [1000, 0] := by rw [← fwd_ex (N := N) (by omega)]; exact inv_fwd N 0 rfl
  have c2 : f14F N [924, 383] = some (([1000, 0], ()), ((), (0, ()))) := by
    rw [f14_eq hN]
    unfold resI
    rw [show er1 33554432 [924, 383] = 0 by decide +kernel, if_pos rfl, show lv ([924, 383] : List Int).length = 0 by decide +kernel, hi]
  have c5 : f16F N [5] [-6] = some (([5], ([-6], ())), ((), ((), (0, ())))) := by
    rw [f16_eq hN]
    unfold resM
    rw [show er2 1048576 [5] [-6] = 0 by decide +kernel, if_pos rfl, show lw ([5] : List Int).length = 0 by decide +kernel]
    rfl
  have c6 : f18F N [5] [-6] = some (([5], ([-6], ())), ((), ((), (0, ())))) := by
    rw [f18_eq hN]
    unfold resU
    rw [show er2 33554432 [5] [-6] = 0 by decide +kernel, if_pos rfl, show lw ([5] : List Int).length = 0 by decide +kernel]
    rfl
  unfold f10F
  simp only [c1, c2, turns2 hN, turns4 hN, c5, c6, Option.bind_some, beq_self_eq_true, cond_true, ints_eq hN (a := [924, 383]) rfl (by decide), ints_eq hN (a := [1000, 0]) rfl (by decide), ints_eq hN (a := [5]) rfl (by decide), ints_eq hN (a := [-6]) rfl (by decide)]

/-! ### Laws -/
theorem resF_len (N : Nat) (x : List Int) : (resF N x).1.1.length ≤ 128 := by
  unfold resF
  by_cases e : er1 1048576 x = 0
  · obtain ⟨⟨l, hl, hx⟩, _⟩ := er1_zero e
    simp only [e, if_true]
    rw [fwd_len, hx, lv_eq]
    exact Nat.pow_le_pow_right (show 0 < 2 by omega) (show l + 1 ≤ 7 by omega)
  · simp [e]
theorem resI_len (N : Nat) (x : List Int) : (resI N x).1.1.length ≤ 128 := by
  unfold resI
  by_cases e : er1 33554432 x = 0
  · obtain ⟨⟨l, hl, hx⟩, _⟩ := er1_zero e
    simp only [e, if_true]
    rw [inv_len, hx, lv_eq]
    exact Nat.pow_le_pow_right (show 0 < 2 by omega) (show l + 1 ≤ 7 by omega)
  · simp [e]
theorem resM_len (N : Nat) (a b : List Int) : (resM N a b).1.1.length ≤ 64 ∧ (resM N a b).1.2.1.length ≤ 64 := by
  unfold resM
  by_cases e : er2 1048576 a b = 0
  · obtain ⟨h0, ⟨l, hl, hx⟩, _⟩ := er2_zero e
    rw [if_pos e]
    simp only
    rw [re_len, im_len, mix_len N _ _ (by rw [zp_len, hx, lw_eq]), hx, lw_eq]
    have := Nat.pow_le_pow_right (show 0 < 2 by omega) hl
    exact ⟨this, this⟩
  · simp [e]
/-! ### Undone -/
end Go.Sh.c07

namespace Go.Sh.c07
open p06 (Bd inR inR_iff isQ isQ_iff sc fwT bkT Fac ofN OfOk of_ok fwT_grows bkT_grows sq0 le_of_sq sq_le)

theorem nine (N : Nat) : ∀ (m n i : Nat) (v : List Int), i + m = v.length → m < n → v.length ≤ 1000000 → ∃ u : List Int, f9l4 N n v (v.length : Int) (i : Int) = some ((u, ()), ()) ∧ u.length = v.length
  | m, 0, i, v, _, h, _ => by omega
  | 0, n + 1, i, v, h, _, _ => by
    refine ⟨v, ?_, rfl⟩
    have : ¬ ((i : Int) < (v.length : Int)) := by omega
    simp only [f9l4, this, decide_false, cond_false]
  | m + 1, n + 1, i, v, h, hn, hv => by
    have h1 : (i : Int) < (v.length : Int) := by omega
    have h2 : 0 ≤ (i : Int) := by omega
    have w1 : IntKind.i64.wrap ((i : Int) + 1) = ((i + 1 : Nat) : Int) := by rw [w64 (by omega) (by omega)]; rfl
    obtain ⟨u, e1, e2⟩ := nine N m n (i + 1) (List.set v (Int.toNat (i : Int)) 9) (by rw [List.length_set]; omega) (by omega) (by rw [List.length_set]; omega)
    rw [List.length_set] at e1 e2
    refine ⟨u, ?_, e2⟩
    simp only [f9l4, h1, h2, decide_true, cond_true, Bool.and_self, w1, e1, Option.bind_some]
theorem nines {N : Nat} (hN : 2000 ≤ N) {x y z : List Int} (hx : x.length ≤ 1000) (hy : y.length ≤ 1000) (hz : z.length ≤ 1000) : ∃ r, f9l2 N N x y z 3 0 = some r := by
  obtain ⟨n, hn⟩ : ∃ n, N = n + 4 := ⟨N - 4, by omega⟩
  obtain ⟨x', ex, _⟩ := nine N x.length N 0 x (by omega) (by omega) (by omega)
  obtain ⟨y', ey, _⟩ := nine N y.length N 0 y (by omega) (by omega) (by omega)
  obtain ⟨z', ez, _⟩ := nine N z.length N 0 z (by omega) (by omega) (by omega)
  rw [show ((0 : Nat) : Int) = 0 from rfl] at ex ey ez
  have w1 : IntKind.i64.wrap (0 + 1) = 1 := by decide
  have w2 : IntKind.i64.wrap (1 + 1) = 2 := by decide
  have w3 : IntKind.i64.wrap (2 + 1) = 3 := by decide
  have h : f9l2 N (n + 4) x y z 3 0 = some ((((), ((), ((), ()))), (x', (y', (z', ())))), ()) := by
    simp only [f9l2, ex, ey, ez, Option.bind_some, w1, w2, w3, show decide ((0 : Int) < 3) = true by decide, show decide ((1 : Int) < 3) = true by decide, show decide ((2 : Int) < 3) = true by decide, show decide ((3 : Int) < 3) = false by decide, show ((0 : Int) == 2) = false by decide, show ((0 : Int) == 1) = false by decide, show ((0 : Int) == 0) = true by decide, show ((1 : Int) == 2) = false by decide, show ((1 : Int) == 1) = true by decide, show ((2 : Int) == 2) = true by decide, cond_true, cond_false]
  rw [← hn] at h
  exact ⟨_, h⟩
theorem copies (N n : Nat) {a b c d : List Int} (ha : a.length ≤ 5000) (hb : b.length ≤ 5000) (hc : c.length ≤ 5000) (hd : d.length ≤ 5000) :
    f9l0 N (n + 5) [] [a, b, c, d] 4 0 = some (([a, b, c, d], ()), ((), ())) := by
  have w1 : IntKind.i64.wrap 1 = 1 := by decide
  have w2 : IntKind.i64.wrap 2 = 2 := by decide
  have w3 : IntKind.i64.wrap 3 = 3 := by decide
  have w4 : IntKind.i64.wrap 4 = 4 := by decide
  have h1 : (a.length) * 8 ≤ 140737488355328 := by omega
  have h2 : (b.length) * 8 ≤ 140737488355328 := by omega
  have h3 : (c.length) * 8 ≤ 140737488355328 := by omega
  have h4 : (d.length) * 8 ≤ 140737488355328 := by omega
  simp [f9l0, w1, w2, w3, w4, h1, h2, h3, h4]
theorem same (N n : Nat) {a b c d : List Int} (ha : f13F N a a = some ((), (true, ()))) (hb : f13F N b b = some ((), (true, ()))) (hc : f13F N c c = some ((), (true, ()))) (hd : f13F N d d = some ((), (true, ()))) :
    f9l6 N (n + 5) [a, b, c, d] [a, b, c, d] 4 0 = some (.inl ((), ())) := by
  have w1 : IntKind.i64.wrap 1 = 1 := by decide
  have w2 : IntKind.i64.wrap 2 = 2 := by decide
  have w3 : IntKind.i64.wrap 3 = 3 := by decide
  have w4 : IntKind.i64.wrap 4 = 4 := by decide
  simp [f9l6, w1, w2, w3, w4, ha, hb, hc, hd]
theorem dctOwn (x a b : List Int) : f9F 200000 x a b = some ((), (true, ())) := by
  unfold f9F
  rw [awake (by omega)]
  by_cases h1 : (300 : Int) < ((x.length : Nat) : Int)
  · simp [h1]
  by_cases h2 : (150 : Int) < ((a.length : Nat) : Int)
  · simp [h1, h2]
  by_cases h3 : (150 : Int) < ((b.length : Nat) : Int)
  · simp [h1, h2, h3]
  have ea : ∀ y : List Int, List.append [] y = y := fun _ => rfl
  have b1 : (List.length ([] : List Int) + List.length x) * 8 ≤ 140737488355328 := by simp; omega
  have b2 : (List.length ([] : List Int) + List.length a) * 8 ≤ 140737488355328 := by simp; omega
  have b3 : (List.length ([] : List Int) + List.length b) * 8 ≤ 140737488355328 := by simp; omega
  have l1 := resF_len 200000 x
  have l2 := resI_len 200000 x
  have l3 := resM_len 200000 a b
  simp only [h1, h2, h3, b1, b2, b3, ea, decide_true, decide_false, cond_true, cond_false]
  rw [f11_eq (by omega), f14_eq (by omega), f16_eq (by omega), ints_eq (by omega) (a := x) rfl (by omega), ints_eq (by omega) (a := a) rfl (by omega), ints_eq (by omega) (a := b) rfl (by omega)]
  simp only [Option.bind_some, Bool.not_true, cond_false]
  generalize (resF 200000 x).1.1 = p1 at *
  generalize (resI 200000 x).1.1 = p2 at *
  generalize (resM 200000 a b).1.2.1 = p4 at *
  generalize (resM 200000 a b).1.1 = p3 at *
  have k1 : f9l0 200000 200000 [] [p1, p2, p3, p4] 4 0 = _ := copies 200000 199995 (by omega) (by omega) (by omega) (by omega)
  have k2 : f9l6 200000 200000 [p1, p2, p3, p4] [p1, p2, p3, p4] 4 0 = _ := same 200000 199995 (ints_eq (by omega) rfl (by omega)) (ints_eq (by omega) rfl (by omega)) (ints_eq (by omega) rfl (by omega)) (ints_eq (by omega) rfl (by omega))
  obtain ⟨r, k3⟩ := nines (N := 200000) (by omega) (x := x) (y := a) (z := b) (by omega) (by omega) (by omega)
  have e5 : ((List.length [p1, p2, p3, p4] : Nat) : Int) = 4 := rfl
  rw [e5, k1, k3]
  simp only [Option.bind_some]
  rw [k2]
  rfl
end Go.Sh.c07
