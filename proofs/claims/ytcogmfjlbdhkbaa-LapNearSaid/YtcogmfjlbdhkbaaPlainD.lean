/- Chapter 7: Forward and Inverse, by the reference. -/
import Derived.Test.YtcogmfjlbdhkbaaPlainC
import Derived.Test.YtcogmfjlbdhkbaaFrameF
set_option linter.unusedVariables false
set_option linter.unusedSimpArgs false
namespace Go.Sh.c08.p07
open p06 (Bd inR inR_iff isQ isQ_iff sc fwT bkT Fac ofN OfOk of_ok fwT_grows bkT_grows sq0 le_of_sq sq_le)

theorem ends_at {N n k : Nat} (h : k < n / 2) : (endsOf N n).getD k Fz = ofN N (-((8 * k + 1 : Nat) : Int)) ((16 * n : Nat) : Int) := by unfold endsOf; rw [tab_getD h]
theorem ends_len (N n : Nat) : (endsOf N n).length = n / 2 := tab_len _ _
theorem f51l0_eq {N : Nat} (hN : 2000 ≤ N) {l : Nat} (hl : l ≤ 6) {x : List Int} (hx : x.length = 2 * 2 ^ l) {S : Int} (hS : S ≤ 1208925819614629174706176) (sx : SqL S x) (E : List (Int × (Int × (Int × Unit)))) (hE : E = endsOf N (2 * 2 ^ l)) (R : Int × ((List (Int × (Int × (Int × Unit)))) × (Int × (Int × (Int × Unit))))) :
    f62l0 N N E R.1 R.2.1 R.2.2.1 R.2.2.2.1 R.2.2.2.2.1 (List.replicate (2 ^ l) 0) (List.replicate (2 ^ l) 0) x ((2 * 2 ^ l : Nat) : Int) ((2 ^ l : Nat) : Int) 0 = some (((E, R), (re (preB N (2 ^ (l + 1)) x), (im (preB N (2 ^ (l + 1)) x), ()))), ((), ((), ()))) := by
  have hp : 2 ^ l ≤ 2 ^ 6 := Nat.pow_le_pow_right (by omega) (by omega)
  have hpp : 2 ^ (l + 1) = 2 * 2 ^ l := by rw [Nat.pow_succ]; omega
  obtain ⟨g, hg⟩ : ∃ g : Nat → P2, g = fun k => pr (bk N (-((8 * k + 1 : Nat) : Int)) ((16 * (2 * 2 ^ l) : Nat) : Int) (x.getD (2 * k) 0) (-x.getD (2 * 2 ^ l - 1 - 2 * k) 0)) := ⟨_, rfl⟩
  have hpre : preB N (2 ^ (l + 1)) x = tab (2 ^ l) g := by unfold preB; rw [hpp, show 2 * 2 ^ l / 2 = 2 ^ l by omega, hg]
  rw [hpre, re_tab, im_tab]
  obtain ⟨s, h1, h2⟩ := idx_loop (m := 2 ^ l) (f := fun n (s : List Int × List Int) k => f62l0 N n E R.1 R.2.1 R.2.2.1 R.2.2.2.1 R.2.2.2.2.1 s.1 s.2 x ((2 * 2 ^ l : Nat) : Int) ((2 ^ l : Nat) : Int) (k : Int)) (fun k s => Wr 0 (2 ^ l) (fun k => (g k).1) k s.1 ∧ Wr 0 (2 ^ l) (fun k => (g k).2.1) k s.2)
    (fun k s => (s.1.set k (g k).1, s.2.set k (g k).2.1)) (fin := fun s => some (((E, R), (s.1, (s.2, ()))), ((), ((), ())))) (fun n k s hk hw => by
    refine ⟨?_, hw.1.set hk, hw.2.set hk⟩
    obtain ⟨k1, k2⟩ := end_ok (n := 2 ^ (l + 1)) (k := k) rfl (by omega) (by omega)
    rw [hpp] at k1
    have z2 : Bd 1099511627776 (x.getD (2 * 2 ^ l - 1 - 2 * k) 0) := bd_sq (by decide) (Int.le_trans (sx (2 * 2 ^ l - 1 - 2 * k)) hS)
    have t := bk_ref (N := N) (by omega) k1 k2 (bd_sq (B := 1099511627776) (by decide) (Int.le_trans (sx (2 * k)) hS)) (y := -x.getD (2 * 2 ^ l - 1 - 2 * k) 0) (by unfold Bd at *; omega)
    have n1 : IntKind.i64.wrap (0 - x.getD (2 * 2 ^ l - 1 - 2 * k) 0) = -x.getD (2 * 2 ^ l - 1 - 2 * k) 0 := by rw [w64 (by unfold Bd at z2; omega) (by unfold Bd at z2; omega)]; omega
    have hs1 := hw.1.1; have hs2 := hw.2.1
    have w1 : IntKind.i64.wrap (2 * (k : Int)) = ((2 * k : Nat) : Int) := by rw [w64 (by omega) (by omega)]; omega
    have w2 : IntKind.i64.wrap (IntKind.i64.wrap (((2 * 2 ^ l : Nat) : Int) - 1) - ((2 * k : Nat) : Int)) = ((2 * 2 ^ l - 1 - 2 * k : Nat) : Int) := by
      rw [w64 (n := ((2 * 2 ^ l : Nat) : Int) - 1) (by omega) (by omega), w64 (by omega) (by omega)]; omega
    have hEl : E.length = 2 ^ l := by rw [hE, ends_len]; omega
    have hEk : E.getD k (0, (0, (0, ()))) = ofN N (-((8 * k + 1 : Nat) : Int)) ((16 * (2 * 2 ^ l) : Nat) : Int) := by rw [hE]; exact ends_at (by omega)
    simp only [f62l0, w1, w2, show (k : Int) < ((2 ^ l : Nat) : Int) by omega, show (0 : Int) ≤ (k : Int) by omega, show (k : Int) < (E.length : Int) by omega, show (0 : Int) ≤ ((2 * k : Nat) : Int) by omega, show ((2 * k : Nat) : Int) < (x.length : Int) by omega,
      show (0 : Int) ≤ ((2 * 2 ^ l - 1 - 2 * k : Nat) : Int) by omega, show ((2 * 2 ^ l - 1 - 2 * k : Nat) : Int) < (x.length : Int) by omega, show (k : Int) < (s.1.length : Int) by omega, show (k : Int) < (s.2.length : Int) by omega, decide_true, Bool.and_self, cond_true, Int.toNat_natCast, hEk, n1, t, Option.bind_some]
    rw [w64s k (by omega), bindS, hg]
    rfl) (fun n s _ => by
    have c1 : ¬ ((2 ^ l : Nat) : Int) < ((2 ^ l : Nat) : Int) := by omega
    simp only [f62l0, c1, decide_false, cond_false]) (N := N) (by omega) (s0 := (List.replicate (2 ^ l) 0, List.replicate (2 ^ l) 0)) ⟨Wr.zero (by simp), Wr.zero (by simp)⟩
  rw [h1.1.all, h1.2.all] at h2
  exact h2
end Go.Sh.c08.p07

namespace Go.Sh.c08.p07
open p06 (Bd inR inR_iff isQ isQ_iff sc fwT bkT Fac ofN OfOk of_ok fwT_grows bkT_grows sq0 le_of_sq sq_le)

def zp (a b : List Int) : List P2 := tab a.length fun k => (a.getD k 0, (b.getD k 0, ()))
/-- The errors of two lists. -/
def er2 (B : Int) (a b : List Int) : Int := if a.length = b.length ∧ szB 6 (a.length : Int) = true then if (a.all (inR B) && b.all (inR B)) = true then 0 else 6 else 1
def lw (n : Nat) : Nat := Nat.log2 n
abbrev R2 := ((List Int) × ((List Int) × Unit)) × (Unit × (Unit × (Int × Unit)))
def resM (N : Nat) (a b : List Int) : R2 := if er2 1048576 a b = 0 then ((re (mix N (lw a.length) (zp a b)), (im (mix N (lw a.length) (zp a b)), ())), ((), ((), (0, ())))) else (([], ([], ())), ((), ((), (er2 1048576 a b, ()))))
def resU (N : Nat) (a b : List Int) : R2 := if er2 33554432 a b = 0 then ((re (unmix N (lw a.length) (zp a b)), (im (unmix N (lw a.length) (zp a b)), ())), ((), ((), (0, ())))) else (([], ([], ())), ((), ((), (er2 33554432 a b, ()))))
/-! ### How many turns -/
end Go.Sh.c08.p07

namespace Go.Sh.c08.p07
open p06 (Bd inR inR_iff isQ isQ_iff sc fwT bkT Fac ofN OfOk of_ok fwT_grows bkT_grows sq0 le_of_sq sq_le)

/-! ### So many turns of pairs, and their squares -/
def Turned (n : Nat) (p q : Int) : Prop := ∃ u c v : Int, 19342813113834066795298816 * q = u + 2 * c + v ∧ (∀ G W : Int, 2 * (G * W * c) ≤ G * G * u + W * W * v) ∧ u ≤ 19346354888696219029209088 * p ∧ v ≤ 43521329506126650289422336 * n
theorem Turned.add {n m : Nat} {p q r s : Int} (h : Turned n p q) (k : Turned m r s) : Turned (n + m) (p + r) (q + s) := by
  obtain ⟨u, c, v, h1, h2, h3, h4⟩ := h
  obtain ⟨u', c', v', k1, k2, k3, k4⟩ := k
  refine ⟨u + u', c + c', v + v', by omega, fun G W => ?_, by omega, by omega⟩
  have a := h2 G W
  have b := k2 G W
  have e1 : G * W * (c + c') = G * W * c + G * W * c' := by grind
  have e2 : G * G * (u + u') + W * W * (v + v') = (G * G * u + W * W * v) + (G * G * u' + W * W * v') := by grind
  omega
theorem Turned.same {p : Int} (h : 0 ≤ p) : Turned 0 p p := by
  refine ⟨19342813113834066795298816 * p, 0, 0, by omega, fun G W => ?_, by omega, by omega⟩
  have := Int.mul_nonneg (sq0 G) (show 0 ≤ 19342813113834066795298816 * p by omega)
  simp only [Int.mul_zero, Int.add_zero]
  exact this
theorem Turned.bound {n : Nat} {p q B C D : Int} (h : Turned n p q) (hB : 1 ≤ B) (hC : 1 ≤ C) (hp : p ≤ B * B) (hn : (n : Int) ≤ C * C) (hD : 32772 * B + 49152 * C ≤ 32768 * D) : q ≤ D * D := by
  obtain ⟨u, c, v, h1, h2, h3, h4⟩ := h
  obtain ⟨W, hW⟩ : ∃ W, W = 4398583382016 * B := ⟨_, rfl⟩
  obtain ⟨G, hG⟩ : ∃ G, G = 6597069766656 * C := ⟨_, rfl⟩
  have hWW : W * W = 19347537901498287104196608 * (B * B) + (4398583382016 * 4398583382016 - 19347537901498287104196608) * (B * B) := by rw [hW]; grind
  have hGG : G * G = 43521329506126650289422336 * (C * C) := by rw [hG]; grind
  have b0 := sq0 B
  have hu : u ≤ W * W := by omega
  have hv : v ≤ G * G := by omega
  have h5 := h2 G W
  have m1 := Int.mul_le_mul_of_nonneg_left hu (sq0 G)
  have m2 := Int.mul_le_mul_of_nonneg_left hv (sq0 W)
  have hpos : 0 < G * W := Int.mul_pos (by omega) (by omega)
  have hc : c ≤ G * W := by
    rcases Int.lt_or_le (G * W) c with hlt | hle
    · have := Int.mul_lt_mul_of_pos_left hlt hpos
      have e : G * W * (G * W) = G * G * (W * W) := by grind
      have e2 : W * W * (G * G) = G * G * (W * W) := by grind
      omega
    · exact hle
  have hq : 19342813113834066795298816 * q ≤ (W + G) * (W + G) := by
    have : (W + G) * (W + G) = W * W + 2 * (G * W) + G * G := by grind
    omega
  have hD' : W + G ≤ 4398046511104 * D := by omega
  have hm := Int.mul_le_mul hD' hD' (by omega) (by omega)
  have e : 4398046511104 * D * (4398046511104 * D) = 19342813113834066795298816 * (D * D) := by grind
  omega
def e2 (p : P2) : Int := p.1 * p.1 + p.2.1 * p.2.1
theorem e2_nonneg (p : P2) : 0 ≤ e2 p := by have := sq0 p.1; have := sq0 p.2.1; unfold e2; omega
theorem turned_of {a b x y x1 y1 x2 q1 q2 q3 : Int} (F : Fac a b) (h1 : 16384 * x1 = 16384 * x - a * y - q1) (h2 : 16384 * y1 = 16384 * y + b * x1 + q2) (h3 : 16384 * x2 = 16384 * x1 - a * y1 - q3)
    (k1 : Bd 8192 q1) (k2 : Bd 8192 q2) (k3 : Bd 8192 q3) : Turned 1 (x * x + y * y) (x2 * x2 + y1 * y1) := by
  obtain ⟨X, Y, f1, f2, e1, e2, e3, _, e5⟩ := p06.turn_core F h1 h2 h3 k1 k2 k3
  refine ⟨X * X + Y * Y, X * f1 + Y * f2, f1 * f1 + f2 * f2, ?_, fun G W => ?_, by omega, by omega⟩
  · have i3 : (4398046511104 * x2) * (4398046511104 * x2) = X * X + 2 * (X * f1) + f1 * f1 := by rw [e1]; grind
    have i4 : (4398046511104 * y1) * (4398046511104 * y1) = Y * Y + 2 * (Y * f2) + f2 * f2 := by rw [e2]; grind
    have i5 : (4398046511104 * x2) * (4398046511104 * x2) = 19342813113834066795298816 * (x2 * x2) := by grind
    have i6 : (4398046511104 * y1) * (4398046511104 * y1) = 19342813113834066795298816 * (y1 * y1) := by grind
    omega
  · have s1 := sq0 (G * X - W * f1)
    have s2 := sq0 (G * Y - W * f2)
    have i1 : (G * X - W * f1) * (G * X - W * f1) + (G * Y - W * f2) * (G * Y - W * f2) = G * G * (X * X + Y * Y) + W * W * (f1 * f1 + f2 * f2) - 2 * (G * W * (X * f1 + Y * f2)) := by grind
    omega
theorem tw_turned {N : Nat} (hN : 100 ≤ N) {n d : Int} (hd : isQ d = true) (hn : inR 1099511627776 n = true) (x y : Int) : Turned 1 (x * x + y * y) ((tw N n d x y).1 * (tw N n d x y).1 + (tw N n d x y).2 * (tw N n d x y).2) := by
  obtain ⟨x1, q1, q2, q3, h1, h2, h3, k1, k2, k3⟩ := p06.fw3_eqs (ofN N n d).2.1 (ofN N n d).2.2.1 (p03.rot (ofN N n d).1.toNat x y).1 (p03.rot (ofN N n d).1.toNat x y).2
  have := turned_of (of_ok hN hd hn).fac h1 h2 h3 k1 k2 k3
  rw [p06.rot_sq] at this
  exact this
/-! ### Sums -/
def sT (n : Nat) (f : Nat → Int) : Int := (tab n f).sum
theorem sT_zero (f : Nat → Int) : sT 0 f = 0 := rfl
theorem sT_succ (n : Nat) (f : Nat → Int) : sT (n + 1) f = sT n f + f n := by unfold sT; rw [tab_succ, sumL_app]; simp
theorem sT_ext {n : Nat} {f g : Nat → Int} (h : ∀ k, k < n → f k = g k) : sT n f = sT n g := by unfold sT; rw [tab_ext h]
theorem sT_add (f g : Nat → Int) : ∀ n, sT n (fun k => f k + g k) = sT n f + sT n g
  | 0 => rfl
  | n + 1 => by rw [sT_succ, sT_succ, sT_succ, sT_add f g n]; omega
theorem sT_nonneg {f : Nat → Int} : ∀ {n}, (∀ k, k < n → 0 ≤ f k) → 0 ≤ sT n f
  | 0, _ => by rw [sT_zero]; omega
  | n + 1, h => by
    have h1 := sT_nonneg (n := n) fun k hk => h k (by omega)
    have h2 := h n (by omega)
    rw [sT_succ]; omega
theorem sT_front (f : Nat → Int) : ∀ n, sT (n + 1) f = f 0 + sT n fun k => f (k + 1)
  | 0 => by rw [sT_succ, sT_zero, sT_zero]; omega
  | n + 1 => by rw [sT_succ, sT_front f n, sT_succ]; omega
theorem sT_rev (f : Nat → Int) : ∀ n, sT n (fun k => f (n - 1 - k)) = sT n f
  | 0 => rfl
  | n + 1 => by
    have h1 := sT_front (fun k => f (n + 1 - 1 - k)) n
    have h2 : sT n (fun k => f (n + 1 - 1 - (k + 1))) = sT n (fun k => f (n - 1 - k)) := sT_ext fun k hk => by rw [show n + 1 - 1 - (k + 1) = n - 1 - k by omega]
    rw [h1, h2, sT_rev f n, sT_succ]
    simp only [Nat.add_sub_cancel, Nat.sub_zero]
    omega
theorem sT_pairs (f : Nat → Int) : ∀ h, sT (2 * h) f = sT h fun k => f (2 * k) + f (2 * k + 1)
  | 0 => rfl
  | h + 1 => by
    rw [show 2 * (h + 1) = 2 * h + 1 + 1 by omega, sT_succ, sT_succ, sT_pairs f h, sT_succ]
    omega
theorem sT_app (f : Nat → Int) (h : Nat) : ∀ m, sT (h + m) f = sT h f + sT m fun k => f (k + h)
  | 0 => by rw [sT_zero]; simp
  | m + 1 => by rw [← Nat.add_assoc, sT_succ, sT_app f h m, sT_succ, Nat.add_comm h m]; omega
theorem sT_ends (f : Nat → Int) (h : Nat) : sT (2 * h) f = sT h fun k => f (2 * k) + f (2 * h - 1 - 2 * k) := by
  have h1 : sT h (fun k => f (2 * h - 1 - 2 * k)) = sT h fun k => f (2 * k + 1) := by
    rw [← sT_rev (fun k => f (2 * k + 1)) h]
    exact sT_ext fun k hk => by rw [show 2 * (h - 1 - k) + 1 = 2 * h - 1 - 2 * k by omega]
  rw [sT_pairs, sT_add, sT_add, h1]
theorem turned_sum {m : Nat} {P Q : Nat → Int} : ∀ {n : Nat}, (∀ k, k < n → Turned m (P k) (Q k)) → Turned (n * m) (sT n P) (sT n Q)
  | 0, _ => by rw [sT_zero, sT_zero, Nat.zero_mul]; exact Turned.same (Int.le_refl 0)
  | n + 1, h => by
    rw [sT_succ, sT_succ, Nat.add_mul, Nat.one_mul]
    exact (turned_sum fun k hk => h k (by omega)).add (h n (by omega))
/-! ### Rows -/
def en2 (z : List P2) : Int := sT z.length fun k => e2 (z.getD k pz)
theorem en2_of {z : List P2} {n : Nat} (h : z.length = n) : en2 z = sT n fun k => e2 (z.getD k pz) := by unfold en2; rw [h]
theorem en2_tab (n : Nat) (f : Nat → P2) : en2 (tab n f) = sT n fun k => e2 (f k) := by
  rw [en2_of (tab_len _ _)]
  exact sT_ext fun k hk => by rw [tab_getD hk]
theorem en2_app (a b : List P2) : en2 (a ++ b) = en2 a + en2 b := by
  rw [en2_of (List.length_append), sT_app]
  congr 1
  · exact sT_ext fun k hk => by rw [getD_app _ _ _ hk]
  · exact sT_ext fun k hk => by rw [getD_app']
def evR (l : Nat) (z : List P2) : List P2 := tab (2 ^ l) fun k => z.getD (2 * k) pz
def odR (l : Nat) (z : List P2) : List P2 := tab (2 ^ l) fun k => z.getD (2 * k + 1) pz
theorem ev_od {l : Nat} {z : List P2} (h : z.length = 2 ^ (l + 1)) : en2 (evR l z) + en2 (odR l z) = en2 z := by
  have hpp : 2 ^ (l + 1) = 2 * 2 ^ l := by rw [Nat.pow_succ]; omega
  unfold evR odR
  rw [en2_tab, en2_tab, ← sT_add, en2_of h, hpp, sT_pairs]
theorem mix_row {N : Nat} (hN : 100 ≤ N) {l : Nat} (hl : l ≤ 5) {z : List P2} (h : z.length = 2 ^ (l + 1)) :
    ∃ mid, Turned (2 ^ l) (en2 (mix N l (evR l z)) + en2 (mix N l (odR l z))) mid ∧ Turned (2 * 2 ^ l) mid (en2 (mix N (l + 1) z)) := by
  have hp : 2 ^ l ≤ 2 ^ 5 := Nat.pow_le_pow_right (by omega) (by omega)
  obtain ⟨a, ha⟩ : ∃ a, mix N l (evR l z) = a := ⟨_, rfl⟩
  obtain ⟨b, hb⟩ : ∃ b, mix N l (odR l z) = b := ⟨_, rfl⟩
  have la : a.length = 2 ^ l := by rw [← ha]; exact mix_len N l _ (tab_len _ _)
  have lb : b.length = 2 ^ l := by rw [← hb]; exact mix_len N l _ (tab_len _ _)
  have hm : isQ ((2 ^ (l + 1) : Nat) : Int) = true := isQ_pow (by omega)
  rw [ha, hb, en2_of la, en2_of lb]
  refine ⟨sT (2 ^ l) (fun k => e2 (a.getD k pz)) + sT (2 ^ l) (fun k => e2 (pr (tw N (-(k : Int)) ((2 ^ (l + 1) : Nat) : Int) (b.getD k pz).1 (b.getD k pz).2.1))), ?_, ?_⟩
  · have t1 := Turned.same (p := sT (2 ^ l) fun k => e2 (a.getD k pz)) (sT_nonneg fun k _ => e2_nonneg _)
    have t2 := turned_sum (m := 1) (P := fun k => e2 (b.getD k pz)) (Q := fun k => e2 (pr (tw N (-(k : Int)) ((2 ^ (l + 1) : Nat) : Int) (b.getD k pz).1 (b.getD k pz).2.1))) (n := 2 ^ l) fun k hk => tw_turned hN hm (part_in (Nat.le_refl 64) (by omega)) _ _
    have := t1.add t2
    rw [Nat.zero_add, Nat.mul_one] at this
    exact this
  · have hmx : en2 (mix N (l + 1) z) = sT (2 ^ l) (fun k => e2 (mixS N (2 ^ (l + 1)) k (a.getD k pz) (b.getD k pz)).1 + e2 (mixS N (2 ^ (l + 1)) k (a.getD k pz) (b.getD k pz)).2) := by
      rw [sT_add]
      show en2 (tab (2 ^ l) _ ++ tab (2 ^ l) _) = _
      rw [en2_app, en2_tab, en2_tab]
      show sT (2 ^ l) (fun k => e2 (mixS N (2 ^ (l + 1)) k ((mix N l (evR l z)).getD k pz) ((mix N l (odR l z)).getD k pz)).1) + sT (2 ^ l) (fun k => e2 (mixS N (2 ^ (l + 1)) k ((mix N l (evR l z)).getD k pz) ((mix N l (odR l z)).getD k pz)).2) = _
      rw [ha, hb]
    rw [hmx, ← sT_add, Nat.mul_comm]
    refine turned_sum fun k hk => ?_
    have p1 := tw_turned (N := N) hN (n := -1) (d := 8) (by decide) (by decide) (a.getD k pz).1 (tw N (-(k : Int)) ((2 ^ (l + 1) : Nat) : Int) (b.getD k pz).1 (b.getD k pz).2.1).1
    have p2 := tw_turned (N := N) hN (n := -1) (d := 8) (by decide) (by decide) (a.getD k pz).2.1 (tw N (-(k : Int)) ((2 ^ (l + 1) : Nat) : Int) (b.getD k pz).1 (b.getD k pz).2.1).2
    have p3 := p1.add p2
    have f1 : e2 (a.getD k pz) + e2 (pr (tw N (-(k : Int)) ((2 ^ (l + 1) : Nat) : Int) (b.getD k pz).1 (b.getD k pz).2.1)) =
        (a.getD k pz).1 * (a.getD k pz).1 + (tw N (-(k : Int)) ((2 ^ (l + 1) : Nat) : Int) (b.getD k pz).1 (b.getD k pz).2.1).1 * (tw N (-(k : Int)) ((2 ^ (l + 1) : Nat) : Int) (b.getD k pz).1 (b.getD k pz).2.1).1 + ((a.getD k pz).2.1 * (a.getD k pz).2.1 + (tw N (-(k : Int)) ((2 ^ (l + 1) : Nat) : Int) (b.getD k pz).1 (b.getD k pz).2.1).2 * (tw N (-(k : Int)) ((2 ^ (l + 1) : Nat) : Int) (b.getD k pz).1 (b.getD k pz).2.1).2) := by
      unfold e2 pr; simp only; omega
    have f2 : e2 (mixS N (2 ^ (l + 1)) k (a.getD k pz) (b.getD k pz)).1 + e2 (mixS N (2 ^ (l + 1)) k (a.getD k pz) (b.getD k pz)).2 =
        (tw N (-1) 8 (a.getD k pz).1 (tw N (-(k : Int)) ((2 ^ (l + 1) : Nat) : Int) (b.getD k pz).1 (b.getD k pz).2.1).1).1 * (tw N (-1) 8 (a.getD k pz).1 (tw N (-(k : Int)) ((2 ^ (l + 1) : Nat) : Int) (b.getD k pz).1 (b.getD k pz).2.1).1).1 + (tw N (-1) 8 (a.getD k pz).1 (tw N (-(k : Int)) ((2 ^ (l + 1) : Nat) : Int) (b.getD k pz).1 (b.getD k pz).2.1).1).2 * (tw N (-1) 8 (a.getD k pz).1 (tw N (-(k : Int)) ((2 ^ (l + 1) : Nat) : Int) (b.getD k pz).1 (b.getD k pz).2.1).1).2 +
        ((tw N (-1) 8 (a.getD k pz).2.1 (tw N (-(k : Int)) ((2 ^ (l + 1) : Nat) : Int) (b.getD k pz).1 (b.getD k pz).2.1).2).1 * (tw N (-1) 8 (a.getD k pz).2.1 (tw N (-(k : Int)) ((2 ^ (l + 1) : Nat) : Int) (b.getD k pz).1 (b.getD k pz).2.1).2).1 + (tw N (-1) 8 (a.getD k pz).2.1 (tw N (-(k : Int)) ((2 ^ (l + 1) : Nat) : Int) (b.getD k pz).1 (b.getD k pz).2.1).2).2 * (tw N (-1) 8 (a.getD k pz).2.1 (tw N (-(k : Int)) ((2 ^ (l + 1) : Nat) : Int) (b.getD k pz).1 (b.getD k pz).2.1).2).2) := by
      unfold mixS e2; simp only [neg_sq]; omega
    rw [f1, f2]
    exact p3
end Go.Sh.c08.p07

namespace Go.Sh.c08.p07
open p06 (Bd inR inR_iff isQ isQ_iff sc fwT bkT Fac ofN OfOk of_ok fwT_grows bkT_grows sq0 le_of_sq sq_le)

def stg (C B : Int) : Int := B + (4 * B + 49152 * C + 32767) / 32768
def stgs : Nat → Int → Int → Int
  | 0, _, B => B
  | k + 1, C, B => stg C (stgs k C B)
theorem stg_ok (C B : Int) : 32772 * B + 49152 * C ≤ 32768 * stg C B := by unfold stg; omega
theorem stg_pos {C B : Int} (hC : 1 ≤ C) (hB : 1 ≤ B) : B ≤ stg C B := by unfold stg; omega
theorem stgs_pos {C B : Int} (hC : 1 ≤ C) (hB : 1 ≤ B) : ∀ k, 1 ≤ stgs k C B
  | 0 => hB
  | k + 1 => by have h := stgs_pos hC hB k; have := stg_pos hC h; show 1 ≤ stg C (stgs k C B); omega
theorem stgs_add (C B : Int) : ∀ (a b : Nat), stgs a C (stgs b C B) = stgs (a + b) C B
  | 0, b => by rw [Nat.zero_add]; rfl
  | a + 1, b => by rw [show a + 1 + b = (a + b) + 1 by omega]; exact congrArg (stg C) (stgs_add C B a b)
theorem stgs_le {C B : Int} (hC : 1 ≤ C) (hB : 1 ≤ B) : ∀ (d k : Nat), stgs k C B ≤ stgs (k + d) C B
  | 0, k => Int.le_refl _
  | d + 1, k => Int.le_trans (stgs_le hC hB d k) (stg_pos hC (stgs_pos hC hB (k + d)))
theorem Turned.stage {n : Nat} {p q B C : Int} (h : Turned n p q) (hB : 1 ≤ B) (hC : 1 ≤ C) (hp : p ≤ B * B) (hn : (n : Int) ≤ C * C) : q ≤ stg C B * stg C B := h.bound hB hC hp hn (stg_ok C B)

def en3 (zs : List (List P2)) : Int := (zs.map en2).sum
theorem en3_cons (z : List P2) (r : List (List P2)) : en3 (z :: r) = en2 z + en3 r := by simp [en3]
theorem en3_app (a b : List (List P2)) : en3 (a ++ b) = en3 a + en3 b := by unfold en3; rw [List.map_append, sumL_app]
theorem en3_one (z : List P2) : en3 [z] = en2 z := by simp [en3]
theorem ev_od3 {l : Nat} : ∀ {zs : List (List P2)}, (∀ z ∈ zs, z.length = 2 ^ (l + 1)) → en3 (zs.map (evR l)) + en3 (zs.map (odR l)) = en3 zs
  | [], _ => rfl
  | z :: r, h => by
    have h1 := ev_od (h z (by simp))
    have h2 := ev_od3 (zs := r) fun u hu => h u (by simp [hu])
    simp only [List.map_cons, en3_cons]
    omega
theorem mix_rows {N : Nat} (hN : 100 ≤ N) {l : Nat} (hl : l ≤ 5) : ∀ {zs : List (List P2)}, (∀ z ∈ zs, z.length = 2 ^ (l + 1)) →
    ∃ mid, Turned (zs.length * 2 ^ l) (en3 (zs.map fun z => mix N l (evR l z)) + en3 (zs.map fun z => mix N l (odR l z))) mid ∧ Turned (zs.length * (2 * 2 ^ l)) mid (en3 (zs.map (mix N (l + 1))))
  | [], _ => ⟨0, by simpa [en3] using Turned.same (Int.le_refl 0), by simpa [en3] using Turned.same (Int.le_refl 0)⟩
  | z :: r, h => by
    obtain ⟨m1, a1, a2⟩ := mix_row hN hl (h z (by simp))
    obtain ⟨m2, b1, b2⟩ := mix_rows hN hl (zs := r) fun u hu => h u (by simp [hu])
    refine ⟨m1 + m2, ?_, ?_⟩
    · have := a1.add b1
      simp only [List.map_cons, en3_cons, List.length_cons, Nat.add_mul, Nat.one_mul]
      rw [Nat.add_comm (2 ^ l)] at this
      rw [show en2 (mix N l (evR l z)) + en3 (r.map fun z => mix N l (evR l z)) + (en2 (mix N l (odR l z)) + en3 (r.map fun z => mix N l (odR l z))) = en2 (mix N l (evR l z)) + en2 (mix N l (odR l z)) + (en3 (r.map fun z => mix N l (evR l z)) + en3 (r.map fun z => mix N l (odR l z))) by omega]
      exact this
    · have := a2.add b2
      simp only [List.map_cons, en3_cons, List.length_cons, Nat.add_mul, Nat.one_mul]
      rw [Nat.add_comm (2 * 2 ^ l)] at this
      exact this
theorem mix_fam {N : Nat} (hN : 100 ≤ N) {C : Int} (hC : 1 ≤ C) : ∀ (l : Nat) (zs : List (List P2)) (B : Int), l ≤ 6 → (∀ z ∈ zs, z.length = 2 ^ l) → 1 ≤ B → ((zs.length * 2 ^ l : Nat) : Int) ≤ C * C → en3 zs ≤ B * B →
    en3 (zs.map (mix N l)) ≤ stgs (2 * l) C B * stgs (2 * l) C B
  | 0, zs, B, _, _, _, _, h => by
    have : zs.map (mix N 0) = zs := by
      rw [show mix N 0 = id from rfl, List.map_id]
    rw [this]; exact h
  | l + 1, zs, B, hl, hz, hB, hn, h => by
    have hpp : 2 ^ (l + 1) = 2 * 2 ^ l := by rw [Nat.pow_succ]; omega
    have ih := mix_fam hN hC l (zs.map (evR l) ++ zs.map (odR l)) B (by omega) (fun z hm => by
      rcases List.mem_append.1 hm with hm | hm
      · obtain ⟨y, _, rfl⟩ := List.mem_map.1 hm; exact tab_len _ _
      · obtain ⟨y, _, rfl⟩ := List.mem_map.1 hm; exact tab_len _ _) hB (by
        rw [List.length_append, List.length_map, List.length_map]
        rw [hpp] at hn
        rw [show (zs.length + zs.length) * 2 ^ l = zs.length * (2 * 2 ^ l) by rw [← Nat.two_mul, Nat.mul_assoc, Nat.mul_left_comm]]
        exact hn) (by rw [en3_app, ev_od3 hz]; exact h)
    rw [List.map_append, en3_app, List.map_map, List.map_map] at ih
    obtain ⟨mid, m1, m2⟩ := mix_rows hN (by omega) hz
    have hb := stgs_pos hC hB (2 * l)
    have n1 : ((zs.length * 2 ^ l : Nat) : Int) ≤ C * C := by
      have : zs.length * 2 ^ l ≤ zs.length * 2 ^ (l + 1) := Nat.mul_le_mul_left _ (by omega)
      omega
    have h1 := m1.stage hb hC ih n1
    have h2 := m2.stage (stgs_pos hC hB (2 * l + 1)) hC h1 (by rw [← hpp]; exact hn)
    exact h2
/-! ### Whole transforms -/
def enL (x : List Int) : Int := sT x.length fun k => x.getD k 0 * x.getD k 0
theorem enL_of {x : List Int} {n : Nat} (h : x.length = n) : enL x = sT n fun k => x.getD k 0 * x.getD k 0 := by unfold enL; rw [h]
theorem enL_tab (n : Nat) (f : Nat → Int) : enL (tab n f) = sT n fun k => f k * f k := by
  rw [enL_of (tab_len _ _)]
  exact sT_ext fun k hk => by rw [tab_getD hk]
theorem sT_one_le {f : Nat → Int} : ∀ {n k : Nat}, (∀ k, k < n → 0 ≤ f k) → k < n → f k ≤ sT n f
  | 0, _, _, h => by omega
  | n + 1, k, h0, h => by
    rw [sT_succ]
    have h1 := sT_nonneg (n := n) fun k hk => h0 k (by omega)
    have h2 := h0 n (by omega)
    rcases Nat.lt_or_ge k n with hk | hk
    · have := sT_one_le (n := n) (fun k hk => h0 k (by omega)) hk
      omega
    · obtain rfl : k = n := by omega
      omega
theorem enL_at {x : List Int} {k : Nat} (h : k < x.length) : x.getD k 0 * x.getD k 0 ≤ enL x := sT_one_le (f := fun k => x.getD k 0 * x.getD k 0) (fun k _ => sq0 _) h
theorem sT_bound {f : Nat → Int} {S : Int} : ∀ {n : Nat}, (∀ k, k < n → f k ≤ S) → sT n f ≤ n * S
  | 0, _ => by rw [sT_zero]; simp
  | n + 1, h => by
    have h1 := sT_bound (n := n) fun k hk => h k (by omega)
    have h2 := h n (by omega)
    have e : ((n + 1 : Nat) : Int) * S = (n : Int) * S + S := by rw [Int.natCast_add, Int.add_mul]; simp
    rw [sT_succ, e]; omega
theorem pre_turned {N : Nat} (hN : 100 ≤ N) {l : Nat} (hl : l ≤ 6) {x : List Int} (hx : x.length = 2 ^ (l + 1)) : Turned (2 ^ l) (enL x) (en2 (preF N (2 ^ (l + 1)) x)) := by
  have hpp : 2 ^ (l + 1) = 2 * 2 ^ l := by rw [Nat.pow_succ]; omega
  have h2 : 2 ^ (l + 1) / 2 = 2 ^ l := by omega
  unfold preF
  rw [enL_of (hx.trans hpp), sT_ends, en2_tab, h2]
  have := turned_sum (m := 1) (P := fun k => x.getD (2 * k) 0 * x.getD (2 * k) 0 + x.getD (2 * 2 ^ l - 1 - 2 * k) 0 * x.getD (2 * 2 ^ l - 1 - 2 * k) 0) (Q := fun k => e2 (pr (tw N (-((8 * k + 1 : Nat) : Int)) ((16 * 2 ^ (l + 1) : Nat) : Int) (x.getD (2 * k) 0) (x.getD (2 ^ (l + 1) - 1 - 2 * k) 0)))) (n := 2 ^ l) fun k hk => by
    obtain ⟨k1, k2⟩ := end_ok (n := 2 ^ (l + 1)) (k := k) rfl (by omega) (by omega)
    rw [← hpp]
    exact tw_turned hN k1 k2 _ _
  rw [Nat.mul_one] at this
  exact this
theorem out_turned {N : Nat} (hN : 100 ≤ N) {l : Nat} (hl : l ≤ 6) {z : List P2} (hz : z.length = 2 ^ l) : Turned (2 ^ l) (en2 z) (enL (tab (2 ^ (l + 1)) (outF N (2 ^ (l + 1)) z))) := by
  have hpp : 2 ^ (l + 1) = 2 * 2 ^ l := by rw [Nat.pow_succ]; omega
  rw [enL_tab, en2_of hz]
  have e : sT (2 ^ (l + 1)) (fun k => outF N (2 ^ (l + 1)) z k * outF N (2 ^ (l + 1)) z k) = sT (2 ^ l) fun k => (endF N (2 ^ (l + 1)) z k).1 * (endF N (2 ^ (l + 1)) z k).1 + (endF N (2 ^ (l + 1)) z k).2 * (endF N (2 ^ (l + 1)) z k).2 := by
    rw [hpp, sT_ends]
    refine sT_ext fun k hk => ?_
    have a1 : outF N (2 * 2 ^ l) z (2 * k) = (endF N (2 * 2 ^ l) z k).1 := by unfold outF; rw [if_pos (by omega), show 2 * k / 2 = k by omega]
    have a2 : outF N (2 * 2 ^ l) z (2 * 2 ^ l - 1 - 2 * k) = -(endF N (2 * 2 ^ l) z k).2 := by unfold outF; rw [if_neg (by omega), show (2 * 2 ^ l - 1 - (2 * 2 ^ l - 1 - 2 * k)) / 2 = k by omega]
    rw [a1, a2, neg_sq]
  rw [e]
  have := turned_sum (m := 1) (P := fun k => e2 (z.getD k pz)) (Q := fun k => (endF N (2 ^ (l + 1)) z k).1 * (endF N (2 ^ (l + 1)) z k).1 + (endF N (2 ^ (l + 1)) z k).2 * (endF N (2 ^ (l + 1)) z k).2) (n := 2 ^ l) fun k hk => by
    obtain ⟨k1, k2⟩ := end_ok (n := 2 ^ (l + 1)) (k := k) rfl (by omega) (by omega)
    exact tw_turned hN k1 k2 _ _
  rw [Nat.mul_one] at this
  exact this
theorem fwd_en {N : Nat} (hN : 100 ≤ N) {l : Nat} (hl : l ≤ 6) {x : List Int} (hx : x.length = 2 ^ (l + 1)) {B C : Int} (hB : 1 ≤ B) (hC : 1 ≤ C) (hn : ((2 ^ l : Nat) : Int) ≤ C * C) (h : enL x ≤ B * B) : enL (fwd N l x) ≤ stgs (2 * l + 2) C B * stgs (2 * l + 2) C B := by
  have h1 := (pre_turned hN hl hx).stage hB hC h hn
  have h2 := mix_fam hN hC l [preF N (2 ^ (l + 1)) x] (stgs 1 C B) hl (by simp [pre_len]) (stgs_pos hC hB 1) (by simpa using hn) (by rw [en3_one]; exact h1)
  rw [List.map_cons, List.map_nil, en3_one, stgs_add] at h2
  exact (out_turned hN hl (mix_len N l _ (pre_len N l x))).stage (stgs_pos hC hB _) hC h2 hn
end Go.Sh.c08.p07

namespace Go.Sh.c08.p07
open p06 (Bd inR inR_iff isQ isQ_iff sc fwT bkT Fac ofN OfOk of_ok fwT_grows bkT_grows sq0 le_of_sq sq_le)

/-! ### Values -/
/-! ### Laws -/
/-! ### Undone -/
theorem all_of {B : Int} (hB : 0 ≤ B) {x : List Int} (h : enL x ≤ B * B) : x.all (inR B) = true := by
  rw [List.all_eq_true]
  intro v hv
  obtain ⟨i, hi, rfl⟩ := List.mem_iff_getElem.1 hv
  have := bd_sq hB (Int.le_trans (enL_at hi) h)
  have e : x.getD i 0 = x[i] := by simp [List.getD, hi]
  rw [e] at this
  exact inR_iff.2 this
theorem sq_mono {a b : Int} (h0 : 0 ≤ a) (h : a ≤ b) : a * a ≤ b * b := Int.mul_le_mul h h h0 (by omega)
end Go.Sh.c08.p07

namespace Go.Sh.c08
open p06 (Bd inR inR_iff)

def isN (n : Int) : Bool := decide (n = 16) || decide (n = 128)
theorem isN_iff {n : Int} : isN n = true ↔ n = 16 ∨ n = 128 := by unfold isN; simp
def lay (l : List Int) : Bool := l.all isN && decide (l.length ≤ 512)
theorem f27_eq {N : Nat} {l : List Int} (hl : l.length ≤ 1000000) (hN : l.length < N) : f27F N l = some ((), (lay l, ())) := by
  have h := all_loop (l := l) 0 (f := fun n i => f27l0 N n l l.length i) isN (y := some (.inl ((), ()))) (z := some (.inr ((), (false, ())))) (fun n i hi => by
    have c1 : (i : Int) < (l.length : Int) := by omega
    simp only [f27l0, c1, decide_true, cond_true, show (0 : Int) ≤ i by omega, Bool.and_self, Int.toNat_natCast]
    rw [w64s i (by omega), bindS]
    obtain ⟨v, hv⟩ : ∃ v, l.getD i 0 = v := ⟨_, rfl⟩
    simp only [hv]
    unfold isN
    by_cases e1 : v = 16
    · simp [e1]
    · have c2 : (v != 16) = true := by simpa using e1
      by_cases e2 : v = 128
      · simp [e2]
      · have c3 : (v != 128) = true := by simpa using e2
        simp [c2, c3, e1, e2]) (fun n => by simp [f27l0]) hN
  unfold f27F lay
  rw [h]
  by_cases e : l.all isN = true
  · rw [if_pos e, e]
    simp
    omega
  · rw [if_neg e, show l.all isN = false by simpa using e]
    rfl
theorem f43_eq {N : Nat} {l : List Int} (hl : l.length ≤ 1000000) (hN : l.length < N) : f43F N l = some ((), (lay l, ())) := by
  have h := all_loop (l := l) 0 (f := fun n i => f43l0 N n l l.length i) isN (y := some (.inl ((), ()))) (z := some (.inr ((), (false, ())))) (fun n i hi => by
    have c1 : (i : Int) < (l.length : Int) := by omega
    simp only [f43l0, c1, decide_true, cond_true, show (0 : Int) ≤ i by omega, Bool.and_self, Int.toNat_natCast]
    rw [w64s i (by omega), bindS]
    obtain ⟨v, hv⟩ : ∃ v, l.getD i 0 = v := ⟨_, rfl⟩
    simp only [hv]
    unfold isN
    by_cases e1 : v = 128
    · simp [e1]
    · have c2 : (v != 128) = true := by simpa using e1
      by_cases e2 : v = 16
      · simp [e2]
      · have c3 : (v != 16) = true := by simpa using e2
        simp [c2, c3, e1, e2]) (fun n => by simp [f43l0]) hN
  unfold f43F lay
  rw [h]
  by_cases e : l.all isN = true
  · rw [if_pos e, e]
    simp
    omega
  · rw [if_neg e, show l.all isN = false by simpa using e]
    rfl
def AllN (l : List Int) : Prop := ∀ n ∈ l, n = 16 ∨ n = 128
theorem lay_all {l : List Int} (h : lay l = true) : AllN l ∧ l.length ≤ 512 := by
  unfold lay at h
  rw [Bool.and_eq_true] at h
  exact ⟨fun n hn => isN_iff.1 (List.all_eq_true.1 h.1 n hn), of_decide_eq_true h.2⟩
theorem AllN.take {l : List Int} (h : AllN l) (k : Nat) : AllN (l.take k) := fun n hn => h n (List.mem_of_mem_take hn)
theorem AllN.drop {l : List Int} (h : AllN l) (k : Nat) : AllN (l.drop k) := fun n hn => h n (List.mem_of_mem_drop hn)
theorem AllN.tail {a : Int} {l : List Int} (h : AllN (a :: l)) : AllN l := fun n hn => h n (by simp [hn])
theorem AllN.head {a : Int} {l : List Int} (h : AllN (a :: l)) : a = 16 ∨ a = 128 := h a (by simp)
theorem sum_bd : ∀ {l : List Int}, AllN l → 16 * (l.length : Int) ≤ l.sum ∧ l.sum ≤ 128 * (l.length : Int)
  | [], _ => by simp
  | a :: r, h => by
    have h1 := sum_bd h.tail
    have h2 := h.head
    simp only [List.sum_cons, List.length_cons]
    omega
theorem f28_eq {N : Nat} {l : List Int} (h : AllN l) (hl : l.length ≤ 1000000) (hN : l.length < N) : f28F N l = some ((), (l.sum, ())) := by
  have hs := sum_loop (l := l) 0 (f := fun n s i => f28l0 N n s l l.length i) (g := fun v => v) (B := 128) (fin := fun s => some ((), (s, ()))) (by decide) (fun v hv => by have := h v hv; omega) 0 (fun n i s hi h1 h2 h3 h4 => by
    have c1 : (i : Int) < (l.length : Int) := by omega
    simp only [f28l0, c1, decide_true, cond_true, show (0 : Int) ≤ i by omega, Bool.and_self, Int.toNat_natCast]
    rw [w64s i (by omega), bindS, w64 (by omega) (by omega)]) (fun n s => by simp [f28l0]) (N := N) hN
  unfold f28F
  rw [hs]
  simp
theorem f44_eq {N : Nat} {l : List Int} (h : AllN l) (hl : l.length ≤ 1000000) (hN : l.length < N) : f44F N l = some ((), (l.sum, ())) := by
  have hs := sum_loop (l := l) 0 (f := fun n s i => f44l0 N n s l l.length i) (g := fun v => v) (B := 128) (fin := fun s => some ((), (s, ()))) (by decide) (fun v hv => by have := h v hv; omega) 0 (fun n i s hi h1 h2 h3 h4 => by
    have c1 : (i : Int) < (l.length : Int) := by omega
    simp only [f44l0, c1, decide_true, cond_true, show (0 : Int) ≤ i by omega, Bool.and_self, Int.toNat_natCast]
    rw [w64s i (by omega), bindS, w64 (by omega) (by omega)]) (fun n s => by simp [f44l0]) (N := N) hN
  unfold f44F
  rw [hs]
  simp
/-! ### Errors -/
def erS (x l : List Int) : Int := if lay l = true then if (x.length : Int) = l.sum then 0 else 4 else 1
def er8 (B : Int) (x l : List Int) : Int := if erS x l = 0 then if x.all (inR B) = true then 0 else 6 else erS x l
theorem erS_zero {x l : List Int} (h : erS x l = 0) : AllN l ∧ l.length ≤ 512 ∧ (x.length : Int) = l.sum := by
  unfold erS at h
  by_cases h1 : lay l = true
  · by_cases h2 : (x.length : Int) = l.sum
    · exact ⟨(lay_all h1).1, (lay_all h1).2, h2⟩
    · rw [if_pos h1, if_neg h2] at h; omega
  · rw [if_neg h1] at h; omega
theorem er8_zero {B : Int} {x l : List Int} (h : er8 B x l = 0) : erS x l = 0 ∧ x.all (inR B) = true := by
  unfold er8 at h
  by_cases h1 : erS x l = 0
  · by_cases h2 : x.all (inR B) = true
    · exact ⟨h1, h2⟩
    · rw [if_pos h1, if_neg h2] at h; omega
  · rw [if_neg h1] at h; exact absurd h h1
theorem f39_eq {N : Nat} {x l : List Int} (hl : l.length ≤ 1000000) (hN : l.length < N) : f39F N x l = some ((), (erS x l, ())) := by
  unfold f39F erS
  rw [f27_eq hl hN]
  simp only [Option.bind_some]
  by_cases h1 : lay l = true
  · rw [h1, f28_eq (lay_all h1).1 hl hN]
    simp only [Bool.not_true, cond_false, Option.bind_some, if_true]
    by_cases h2 : (x.length : Int) = l.sum
    · simp [h2]
    · have : (((x.length : Nat) : Int) != l.sum) = true := by simpa using h2
      simp [this, h2]
  · rw [show lay l = false by simpa using h1]; rfl
theorem f29_eq {N : Nat} {B : Int} {l : List Int} (h0 : 0 ≤ B) (h1 : B ≤ 4611686018427387904) (hl : l.length ≤ 1000000) (hN : l.length < N) : f29F N B l = some ((), (l.all (inR B), ())) := p07.f30_eq h0 h1 hl hN
theorem f30_eq {N : Nat} {B : Int} {x l : List Int} (h0 : 0 ≤ B) (h1 : B ≤ 4611686018427387904) (hx : x.length ≤ 1000000) (hxN : x.length < N) (hl : l.length ≤ 1000000) (hN : l.length < N) : f30F N x l B = some ((), (er8 B x l, ())) := by
  have h := all_loop (l := x) 0 (f := fun n i => f30l0 N n B x x.length i) (inR B) (y := some (.inl ((), ()))) (z := some (.inr ((), (6, ())))) (fun n i hi => by
    have c1 : (i : Int) < (x.length : Int) := by omega
    simp only [f30l0, c1, decide_true, cond_true, show (0 : Int) ≤ i by omega, Bool.and_self, Int.toNat_natCast]
    rw [w64s i (by omega), bindS, w64 (n := 0 - B) (by omega) (by omega), show (0 : Int) - B = -B by omega]
    obtain ⟨v, hv⟩ : ∃ v, x.getD i 0 = v := ⟨_, rfl⟩
    simp only [hv]
    unfold inR
    by_cases e1 : -B ≤ v
    · have c2 : ¬ v < -B := by omega
      by_cases e2 : v ≤ B
      · have c3 : ¬ B < v := by omega
        simp [c2, c3, e1, e2]
      · have c3 : B < v := by omega
        simp [c2, c3, e1, e2]
    · have c2 : v < -B := by omega
      simp [c2, e1]) (fun n => by simp [f30l0]) hxN
  unfold f30F er8 erS
  rw [f43_eq hl hN]
  simp only [Option.bind_some]
  by_cases h1 : lay l = true
  · rw [h1, f44_eq (lay_all h1).1 hl hN]
    simp only [Bool.not_true, cond_false, Option.bind_some, if_true]
    by_cases h2 : (x.length : Int) = l.sum
    · have : (((x.length : Nat) : Int) != l.sum) = false := by simpa using h2
      rw [this, h]
      simp only [cond_false, h2, if_true]
      by_cases e : x.all (inR B) = true
      · rw [if_pos e, e]; rfl
      · rw [if_neg e, show x.all (inR B) = false by simpa using e]; rfl
    · have : (((x.length : Nat) : Int) != l.sum) = true := by simpa using h2
      simp [this, h2]
  · rw [show lay l = false by simpa using h1]; rfl
theorem f31_eq (N : Nat) {x : List Int} (hx : x.length ≤ 1000000) : f31F N x = some ((x, ()), ((), ())) := by
  have : (([] : List Int).length + x.length) * 8 ≤ 140737488355328 := by simp; omega
  unfold f31F
  simp only [this, decide_true, cond_true, List.append_eq, List.nil_append]
/-- What is not asked here. -/
def gr (x l : List Int) : Bool := decide (1200 < (x.length : Int)) || decide (600 < (l.length : Int)) || (lay l && decide (l.sum = (x.length : Int)) && decide (40 < (l.length : Int)))
theorem f12_eq {N : Nat} (hN : 10000 ≤ N) (x l : List Int) : f12F N x l = some ((), (gr x l, ())) := by
  unfold f12F gr
  by_cases c1 : 1200 < (x.length : Int)
  · simp [c1]
  · by_cases c2 : 600 < (l.length : Int)
    · simp [c1, c2]
    · rw [f27_eq (by omega) (by omega)]
      simp only [c1, c2, decide_false, cond_false, Bool.false_or, Option.bind_some]
      by_cases h1 : lay l = true
      · rw [h1, f28_eq (lay_all h1).1 (by omega) (by omega)]
        simp only [cond_true, Option.bind_some, Bool.true_and]
        by_cases h2 : l.sum = (x.length : Int)
        · simp [h2]
        · have : (l.sum == ((x.length : Nat) : Int)) = false := by simpa using h2
          simp [this, h2]
      · rw [show lay l = false by simpa using h1]; rfl
theorem gr_no {x l : List Int} (h : gr x l = false) : x.length ≤ 1200 ∧ l.length ≤ 600 ∧ (erS x l = 0 → l.length ≤ 40) := by
  unfold gr at h
  simp only [Bool.or_eq_false_iff, Bool.and_eq_false_iff, decide_eq_false_iff_not] at h
  obtain ⟨⟨h1, h2⟩, h3⟩ := h
  refine ⟨by omega, by omega, fun e => ?_⟩
  obtain ⟨k1, k2, k3⟩ := erS_zero e
  have hl : lay l = true := by
    unfold lay
    rw [Bool.and_eq_true]
    exact ⟨List.all_eq_true.2 fun n hn => isN_iff.2 (k1 n hn), decide_eq_true k2⟩
  rcases h3 with (h3 | h3) | h3
  · rw [hl] at h3; cases h3
  · exact absurd k3.symm h3
  · omega
/-! ### Own -/
end Go.Sh.c08

namespace Go.Sh.c08
open p06 (Bd inR inR_iff isQ isQ_iff)
open p07 (tab tab_len tab_getD tab_ext eq_tab tw bk gS)

/-- A turn, forth or back. -/
def T (bw : Bool) (N : Nat) (n d x y : Int) : Int × Int := if bw = true then bk N n d x y else tw N n d x y
theorem T_inv (N : Nat) (n d x y : Int) : T true N n d (T false N n d x y).1 (T false N n d x y).2 = (x, y) := p07.bk_tw N n d x y
/-- One lap of a length l at a place p. -/
def lapG (bw : Bool) (N p l : Nat) (x : List Int) (j : Nat) : Int :=
  if p ≤ j + l / 2 ∧ j < p then (T bw N ((l : Int) - 2 * ((p - 1 - j : Nat) : Int) - 1) (8 * (l : Int)) (x.getD j 0) (x.getD (2 * p - 1 - j) 0)).1
  else if p ≤ j ∧ j < p + l / 2 then (T bw N ((l : Int) - 2 * ((j - p : Nat) : Int) - 1) (8 * (l : Int)) (x.getD (2 * p - 1 - j) 0) (x.getD j 0)).2
  else x.getD j 0
def lapV (bw : Bool) (N p l : Nat) (x : List Int) : List Int := tab x.length (lapG bw N p l x)
theorem lapV_len (bw : Bool) (N p l : Nat) (x : List Int) : (lapV bw N p l x).length = x.length := tab_len _ _
theorem getD_out {x : List Int} {j : Nat} (h : x.length ≤ j) : x.getD j 0 = 0 := by simp [List.getD, h]
theorem lapV_at (bw : Bool) (N : Nat) {p l : Nat} {x : List Int} (hp : p + l / 2 ≤ x.length) (j : Nat) : (lapV bw N p l x).getD j 0 = lapG bw N p l x j := by
  rcases Nat.lt_or_ge j x.length with h | h
  · exact tab_getD h
  · rw [getD_out (by rw [lapV_len]; exact h)]
    unfold lapG
    rw [if_neg (by omega), if_neg (by omega), getD_out h]
theorem lapV_ext {a b : List Int} (hl : a.length = b.length) (h : ∀ j, a.getD j 0 = b.getD j 0) : a = b := listEq_getD 0 hl fun k _ => h k
theorem lapV_inv (N : Nat) {p l : Nat} {x : List Int} (hp : p + l / 2 ≤ x.length) (hp2 : l / 2 ≤ p) : lapV true N p l (lapV false N p l x) = x := by
  refine lapV_ext (by rw [lapV_len, lapV_len]) fun j => ?_
  have hl : p + l / 2 ≤ (lapV false N p l x).length := by rw [lapV_len]; exact hp
  rw [lapV_at true N hl]
  unfold lapG
  simp only [lapV_at false N hp]
  by_cases c1 : p ≤ j + l / 2 ∧ j < p
  · rw [if_pos c1]
    have e1 : lapG false N p l x j = (T false N ((l : Int) - 2 * ((p - 1 - j : Nat) : Int) - 1) (8 * (l : Int)) (x.getD j 0) (x.getD (2 * p - 1 - j) 0)).1 := by unfold lapG; rw [if_pos c1]
    have e2 : lapG false N p l x (2 * p - 1 - j) = (T false N ((l : Int) - 2 * ((p - 1 - j : Nat) : Int) - 1) (8 * (l : Int)) (x.getD j 0) (x.getD (2 * p - 1 - j) 0)).2 := by
      unfold lapG
      rw [if_neg (by omega), if_pos (by omega), show 2 * p - 1 - j - p = p - 1 - j by omega, show 2 * p - 1 - (2 * p - 1 - j) = j by omega]
    rw [e1, e2, T_inv]
  · rw [if_neg c1]
    by_cases c2 : p ≤ j ∧ j < p + l / 2
    · rw [if_pos c2]
      have e1 : lapG false N p l x (2 * p - 1 - j) = (T false N ((l : Int) - 2 * ((j - p : Nat) : Int) - 1) (8 * (l : Int)) (x.getD (2 * p - 1 - j) 0) (x.getD j 0)).1 := by
        unfold lapG
        rw [if_pos (by omega), show p - 1 - (2 * p - 1 - j) = j - p by omega, show 2 * p - 1 - (2 * p - 1 - j) = j by omega]
      have e2 : lapG false N p l x j = (T false N ((l : Int) - 2 * ((j - p : Nat) : Int) - 1) (8 * (l : Int)) (x.getD (2 * p - 1 - j) 0) (x.getD j 0)).2 := by
        unfold lapG; rw [if_neg c1, if_pos c2]
      rw [e1, e2, T_inv]
    · rw [if_neg c2]
      unfold lapG
      rw [if_neg c1, if_neg c2]
theorem lapG_far (bw : Bool) (N : Nat) {p l j : Nat} (x : List Int) (h : j + l / 2 < p ∨ p + l / 2 ≤ j) : lapG bw N p l x j = x.getD j 0 := by
  unfold lapG
  rw [if_neg (by omega), if_neg (by omega)]
theorem lapG_same (bw : Bool) (N : Nat) {p l j : Nat} {x y : List Int} (hlp : l / 2 ≤ p) (h : ∀ i, p ≤ i + l / 2 → i < p + l / 2 → x.getD i 0 = y.getD i 0) (hj : p ≤ j + l / 2 ∧ j < p + l / 2) : lapG bw N p l x j = lapG bw N p l y j := by
  unfold lapG
  by_cases c1 : p ≤ j + l / 2 ∧ j < p
  · rw [if_pos c1, if_pos c1, h j (by omega) (by omega), h (2 * p - 1 - j) (by omega) (by omega)]
  · rw [if_neg c1, if_neg c1]
    by_cases c2 : p ≤ j ∧ j < p + l / 2
    · rw [if_pos c2, if_pos c2, h j (by omega) (by omega), h (2 * p - 1 - j) (by omega) (by omega)]
    · rw [if_neg c2, if_neg c2, h j (by omega) (by omega)]
theorem lapV_comm (b1 b2 : Bool) (N : Nat) {p1 l1 p2 l2 : Nat} {x : List Int} (hl1 : l1 / 2 ≤ p1) (hl2 : l2 / 2 ≤ p2) (h : p1 + l1 / 2 + l2 / 2 ≤ p2) (hx : p2 + l2 / 2 ≤ x.length) :
    lapV b1 N p1 l1 (lapV b2 N p2 l2 x) = lapV b2 N p2 l2 (lapV b1 N p1 l1 x) := by
  refine lapV_ext (by simp only [lapV_len]) fun j => ?_
  have hx1 : p1 + l1 / 2 ≤ x.length := by omega
  rw [lapV_at b1 N (by rw [lapV_len]; exact hx1), lapV_at b2 N (by rw [lapV_len]; exact hx)]
  rcases Nat.lt_or_ge j (p1 + l1 / 2) with c | c
  · rw [lapG_far b2 N (lapV b1 N p1 l1 x) (.inl (by omega)), lapV_at b1 N hx1]
    rcases Nat.lt_or_ge (j + l1 / 2) p1 with c' | c'
    · rw [lapG_far b1 N _ (.inl c'), lapG_far b1 N _ (.inl c'), lapV_at b2 N hx, lapG_far b2 N _ (.inl (by omega))]
    · exact lapG_same b1 N hl1 (fun i h1 h2 => by rw [lapV_at b2 N hx, lapG_far b2 N _ (.inl (by omega))]) ⟨c', c⟩
  · rw [lapG_far b1 N (lapV b2 N p2 l2 x) (.inr c), lapV_at b2 N hx]
    rcases Nat.lt_or_ge (j + l2 / 2) p2 with c' | c'
    · rw [lapG_far b2 N _ (.inl c'), lapG_far b2 N _ (.inl c'), lapV_at b1 N hx1, lapG_far b1 N _ (.inr c)]
    · rcases Nat.lt_or_ge j (p2 + l2 / 2) with c3 | c3
      · exact lapG_same b2 N hl2 (fun i h1 h2 => by rw [lapV_at b1 N hx1, lapG_far b1 N _ (.inr (by omega))]) ⟨c', c3⟩
      · rw [lapG_far b2 N _ (.inr c3), lapG_far b2 N _ (.inr c3), lapV_at b1 N hx1, lapG_far b1 N _ (.inr c)]
/-! ### All laps of a layout, in numbers -/
def flds (bw : Bool) (N : Nat) : Nat → List Nat → List Int → List Int
  | p, a :: b :: r, x => flds bw N (p + a) (b :: r) (lapV bw N (p + a) (min a b) x)
  | _, _, x => x
def sumN (l : List Nat) : Nat := l.sum
theorem flds_len (bw : Bool) (N : Nat) : ∀ (l : List Nat) (p : Nat) (x : List Int), (flds bw N p l x).length = x.length
  | [], _, _ => rfl
  | [_], _, _ => rfl
  | a :: b :: r, p, x => by
    show (flds bw N (p + a) (b :: r) _).length = _
    rw [flds_len bw N (b :: r), lapV_len]
theorem flds_lap (b1 b2 : Bool) (N : Nat) : ∀ (l : List Nat) (p q m : Nat) (x : List Int), m / 2 ≤ q → (∀ c r, l = c :: r → q + m / 2 + c / 2 ≤ p + c) → p + l.sum ≤ x.length → lapV b1 N q m (flds b2 N p l x) = flds b2 N p l (lapV b1 N q m x)
  | [], _, _, _, _, _, _, _ => rfl
  | [_], _, _, _, _, _, _, _ => rfl
  | a :: b :: r, p, q, m, x, hm, hq, hx => by
    have h1 := hq a (b :: r) rfl
    simp only [List.sum_cons] at hx
    show lapV b1 N q m (flds b2 N (p + a) (b :: r) (lapV b2 N (p + a) (min a b) x)) = flds b2 N (p + a) (b :: r) (lapV b2 N (p + a) (min a b) (lapV b1 N q m x))
    have ha : min a b ≤ a := Nat.min_le_left a b
    have hb : min a b ≤ b := Nat.min_le_right a b
    generalize min a b = c at *
    rw [flds_lap b1 b2 N (b :: r) (p + a) q m _ hm (fun c' r' e => by cases e; omega) (by rw [lapV_len]; simp only [List.sum_cons]; omega)]
    rw [lapV_comm b1 b2 N hm (by omega) (by omega) (by omega)]
theorem flds_inv (N : Nat) : ∀ (l : List Nat) (p : Nat) (x : List Int), p + l.sum ≤ x.length → flds true N p l (flds false N p l x) = x
  | [], _, _, _ => rfl
  | [_], _, _, _ => rfl
  | a :: b :: r, p, x, hx => by
    simp only [List.sum_cons] at hx
    show flds true N (p + a) (b :: r) (lapV true N (p + a) (min a b) (flds false N (p + a) (b :: r) (lapV false N (p + a) (min a b) x))) = x
    have ha : min a b ≤ a := Nat.min_le_left a b
    have hb : min a b ≤ b := Nat.min_le_right a b
    generalize min a b = c at *
    rw [flds_lap true false N (b :: r) (p + a) (p + a) c _ (by omega) (fun c' r' e => by cases e; omega) (by rw [lapV_len]; simp only [List.sum_cons]; omega), lapV_inv N (by omega) (by omega)]
    exact flds_inv N (b :: r) (p + a) x (by simp only [List.sum_cons]; omega)
end Go.Sh.c08

namespace Go.Sh.c08
open p06 (Bd inR inR_iff isQ isQ_iff)
open p07 (tab tab_len tab_getD tab_ext eq_tab tw bk gS)

def lapH (bw : Bool) (N p l h : Nat) (x : List Int) (j : Nat) : Int :=
  if p ≤ j + h ∧ j < p then (T bw N ((l : Int) - 2 * ((p - 1 - j : Nat) : Int) - 1) (8 * (l : Int)) (x.getD j 0) (x.getD (2 * p - 1 - j) 0)).1
  else if p ≤ j ∧ j < p + h then (T bw N ((l : Int) - 2 * ((j - p : Nat) : Int) - 1) (8 * (l : Int)) (x.getD (2 * p - 1 - j) 0) (x.getD j 0)).2
  else x.getD j 0
theorem lap_loop {R : Type} (bw : Bool) (N : Nat) {p l : Nat} {x : List Int} (hlp : l / 2 ≤ p) (hpx : p + l / 2 ≤ x.length) {f : Nat → List Int → Nat → Option R} {fin : List Int → Option R}
    (hstep : ∀ (n i : Nat) (v : List Int), i < l / 2 → v.length = x.length → v.getD (p - 1 - i) 0 = x.getD (p - 1 - i) 0 → v.getD (p + i) 0 = x.getD (p + i) 0 →
      f (n + 1) v i = f n ((v.set (p - 1 - i) (T bw N ((l : Int) - 2 * (i : Int) - 1) (8 * (l : Int)) (x.getD (p - 1 - i) 0) (x.getD (p + i) 0)).1).set (p + i) (T bw N ((l : Int) - 2 * (i : Int) - 1) (8 * (l : Int)) (x.getD (p - 1 - i) 0) (x.getD (p + i) 0)).2) (i + 1))
    (hend : ∀ (n : Nat) (v : List Int), f (n + 1) v (l / 2) = fin v) {M : Nat} (hM : l / 2 < M) : f M x 0 = fin (lapV bw N p l x) := by
  obtain ⟨s, h1, h2⟩ := p07.idx_loop (m := l / 2) (f := f) (fun i v => v.length = x.length ∧ ∀ j, v.getD j 0 = lapH bw N p l i x j)
    (fun i v => (v.set (p - 1 - i) (T bw N ((l : Int) - 2 * (i : Int) - 1) (8 * (l : Int)) (x.getD (p - 1 - i) 0) (x.getD (p + i) 0)).1).set (p + i) (T bw N ((l : Int) - 2 * (i : Int) - 1) (8 * (l : Int)) (x.getD (p - 1 - i) 0) (x.getD (p + i) 0)).2)
    (fin := fin) (fun n i v hi hv => by
      obtain ⟨hv1, hv2⟩ := hv
      have r1 : v.getD (p - 1 - i) 0 = x.getD (p - 1 - i) 0 := by rw [hv2]; unfold lapH; rw [if_neg (by omega), if_neg (by omega)]
      have r2 : v.getD (p + i) 0 = x.getD (p + i) 0 := by rw [hv2]; unfold lapH; rw [if_neg (by omega), if_neg (by omega)]
      refine ⟨hstep n i v hi hv1 r1 r2, by simp [hv1], fun j => ?_⟩
      by_cases e1 : p + i = j
      · subst e1
        rw [p07.set_self _ (by rw [List.length_set, hv1]; omega)]
        unfold lapH
        rw [if_neg (by omega), if_pos (by omega), show p + i - p = i by omega, show 2 * p - 1 - (p + i) = p - 1 - i by omega]
      · rw [p07.set_ne _ e1]
        by_cases e2 : p - 1 - i = j
        · subst e2
          rw [p07.set_self _ (by rw [hv1]; omega)]
          unfold lapH
          rw [if_pos (by omega), show p - 1 - (p - 1 - i) = i by omega, show 2 * p - 1 - (p - 1 - i) = p + i by omega]
        · rw [p07.set_ne _ e2, hv2]
          unfold lapH
          by_cases c1 : p ≤ j + i ∧ j < p
          · rw [if_pos c1, if_pos (by omega)]
          · rw [if_neg c1, if_neg (c := p ≤ j + (i + 1) ∧ j < p) (by omega)]
            by_cases c2 : p ≤ j ∧ j < p + i
            · rw [if_pos c2, if_pos (by omega)]
            · rw [if_neg c2, if_neg (by omega)]) (fun n v _ => hend n v) (N := M) hM (s0 := x) ⟨rfl, fun j => by unfold lapH; rw [if_neg (by omega), if_neg (by omega)]⟩
  have hs : s = lapV bw N p l x := lapV_ext (by rw [h1.1, lapV_len]) fun j => by
    rw [h1.2 j, lapV_at bw N hpx]; rfl
  rw [h2, hs]
/-! ### What may be turned -/
def SqR (S : Int) (q : Nat) (x : List Int) : Prop := ∀ j, q ≤ j → x.getD j 0 * x.getD j 0 ≤ S
structure Lap (l : Nat) : Prop where
  v : l = 16 ∨ l = 128
theorem Lap.d {l : Nat} (h : Lap l) : isQ (8 * (l : Int)) = true := by rcases h.v with rfl | rfl <;> decide
theorem Lap.n {l i : Nat} (h : Lap l) (hi : i < l / 2) : inR 1099511627776 ((l : Int) - 2 * (i : Int) - 1) = true := by
  refine inR_iff.2 ?_
  rcases h.v with rfl | rfl <;> omega
theorem turn_code {N : Nat} (hN : 100 ≤ N) {x y n d : Int} (hd : isQ d = true) (hn : inR 1099511627776 n = true) (hx : x * x ≤ 1152921504606846976) (hy : y * y ≤ 1152921504606846976) :
    f33F N x y n d = some ((), ((T false N n d x y).1, ((T false N n d x y).2, (0, ())))) := by
  rw [p06.f21_eq hN]
  unfold p06.res
  rw [if_pos hd, if_pos (by rw [p07.in_of_sq (B := 1073741824) (by decide) hx, p07.in_of_sq (B := 1073741824) (by decide) hy, hn]; rfl)]
  rfl
theorem back_code {N : Nat} (hN : 100 ≤ N) {x y n d : Int} (hd : isQ d = true) (hn : inR 1099511627776 n = true) (hx : x * x ≤ 18446744073709551616) (hy : y * y ≤ 18446744073709551616) :
    f42F N x y n d = some ((), ((T true N n d x y).1, ((T true N n d x y).2, (0, ())))) := by
  rw [p06.f25_eq hN]
  unfold p06.res
  rw [if_pos hd, if_pos (by rw [p07.in_of_sq (B := 4294967296) (by decide) hx, p07.in_of_sq (B := 4294967296) (by decide) hy, hn]; rfl)]
  rfl
theorem f46v1_eq {N : Nat} (hN : 10000 ≤ N) (u : Unit × Unit) {p l : Nat} {x : List Int} (hl : Lap l) (hlp : l / 2 ≤ p) (hpx : p + l / 2 ≤ x.length) (hx : x.length ≤ 1000000) (hs : SqR 1152921504606846976 (p - l / 2) x) :
    f46v1F N u x ((p : Int), ((l : Int), ())) = some (((u, ()), (((), ()), (lapV false N p l x, ()))), ()) := by
  have hb : l ≤ 128 := by rcases hl.v with rfl | rfl <;> omega
  have wh : IntKind.i64.wrap (Int.tdiv (l : Int) 2) = ((l / 2 : Nat) : Int) := by
    rw [Int.tdiv_eq_ediv_of_nonneg (by omega), w64 (by omega) (by omega)]; omega
  have h := lap_loop false N hlp hpx (f := fun n v i => f46v1l0 N n u (p : Int) (l : Int) v ((l / 2 : Nat) : Int) (i : Int)) (fin := fun v => some (((u, ()), (((), ()), (((p : Int), ((l : Int), ())), (v, ())))), ())) (fun n i v hi hv r1 r2 => by
    have w1 : IntKind.i64.wrap (IntKind.i64.wrap ((p : Int) - 1) - (i : Int)) = ((p - 1 - i : Nat) : Int) := by
      rw [w64 (n := (p : Int) - 1) (by omega) (by omega), w64 (by omega) (by omega)]; omega
    have w2 : IntKind.i64.wrap ((p : Int) + (i : Int)) = ((p + i : Nat) : Int) := by rw [w64 (by omega) (by omega)]; rfl
    have w3 : IntKind.i64.wrap (IntKind.i64.wrap ((l : Int) - IntKind.i64.wrap (2 * (i : Int))) - 1) = (l : Int) - 2 * (i : Int) - 1 := by
      rw [w64 (n := 2 * (i : Int)) (by omega) (by omega), w64 (n := (l : Int) - 2 * (i : Int)) (by omega) (by omega), w64 (by omega) (by omega)]
    have w4 : IntKind.i64.wrap (8 * (l : Int)) = 8 * (l : Int) := w64 (by omega) (by omega)
    have t := turn_code (N := N) (by omega) hl.d (hl.n hi) (hs (p - 1 - i) (by omega)) (hs (p + i) (by omega))
    simp only [f46v1l0, w1, w2, w3, w4, show (i : Int) < ((l / 2 : Nat) : Int) by omega, show (0 : Int) ≤ ((p - 1 - i : Nat) : Int) by omega, show ((p - 1 - i : Nat) : Int) < (v.length : Int) by omega, show (0 : Int) ≤ ((p + i : Nat) : Int) by omega, show ((p + i : Nat) : Int) < (v.length : Int) by omega, decide_true, Bool.and_self, cond_true, Int.toNat_natCast, r1, r2, t, Option.bind_some, List.length_set]
    rw [w64s i (by omega), bindS]) (fun n v => by
    have c1 : ¬ ((l / 2 : Nat) : Int) < ((l / 2 : Nat) : Int) := by omega
    simp only [f46v1l0, c1, decide_false, cond_false]) (M := N) (by omega)
  unfold f46v1F
  rw [wh]
  rw [show ((0 : Nat) : Int) = 0 from rfl] at h
  rw [h]
  rfl
theorem f46v3_eq {N : Nat} (hN : 10000 ≤ N) (u : Unit × Unit) {p l : Nat} {x : List Int} (hl : Lap l) (hlp : l / 2 ≤ p) (hpx : p + l / 2 ≤ x.length) (hx : x.length ≤ 1000000) (hs : SqR 18446744073709551616 (p - l / 2) x) :
    f46v3F N u x ((p : Int), ((l : Int), ())) = some (((u, ()), (((), ()), (lapV true N p l x, ()))), ()) := by
  have hb : l ≤ 128 := by rcases hl.v with rfl | rfl <;> omega
  have wh : IntKind.i64.wrap (Int.tdiv (l : Int) 2) = ((l / 2 : Nat) : Int) := by
    rw [Int.tdiv_eq_ediv_of_nonneg (by omega), w64 (by omega) (by omega)]; omega
  have h := lap_loop true N hlp hpx (f := fun n v i => f46v3l0 N n u (p : Int) (l : Int) v ((l / 2 : Nat) : Int) (i : Int)) (fin := fun v => some (((u, ()), (((), ()), (((p : Int), ((l : Int), ())), (v, ())))), ())) (fun n i v hi hv r1 r2 => by
    have w1 : IntKind.i64.wrap (IntKind.i64.wrap ((p : Int) - 1) - (i : Int)) = ((p - 1 - i : Nat) : Int) := by
      rw [w64 (n := (p : Int) - 1) (by omega) (by omega), w64 (by omega) (by omega)]; omega
    have w2 : IntKind.i64.wrap ((p : Int) + (i : Int)) = ((p + i : Nat) : Int) := by rw [w64 (by omega) (by omega)]; rfl
    have w3 : IntKind.i64.wrap (IntKind.i64.wrap ((l : Int) - IntKind.i64.wrap (2 * (i : Int))) - 1) = (l : Int) - 2 * (i : Int) - 1 := by
      rw [w64 (n := 2 * (i : Int)) (by omega) (by omega), w64 (n := (l : Int) - 2 * (i : Int)) (by omega) (by omega), w64 (by omega) (by omega)]
    have w4 : IntKind.i64.wrap (8 * (l : Int)) = 8 * (l : Int) := w64 (by omega) (by omega)
    have t := back_code (N := N) (by omega) hl.d (hl.n hi) (hs (p - 1 - i) (by omega)) (hs (p + i) (by omega))
    simp only [f46v3l0, w1, w2, w3, w4, show (i : Int) < ((l / 2 : Nat) : Int) by omega, show (0 : Int) ≤ ((p - 1 - i : Nat) : Int) by omega, show ((p - 1 - i : Nat) : Int) < (v.length : Int) by omega, show (0 : Int) ≤ ((p + i : Nat) : Int) by omega, show ((p + i : Nat) : Int) < (v.length : Int) by omega, decide_true, Bool.and_self, cond_true, Int.toNat_natCast, r1, r2, t, Option.bind_some, List.length_set]
    rw [w64s i (by omega), bindS]) (fun n v => by
    have c1 : ¬ ((l / 2 : Nat) : Int) < ((l / 2 : Nat) : Int) := by omega
    simp only [f46v3l0, c1, decide_false, cond_false]) (M := N) (by omega)
  unfold f46v3F
  rw [wh]
  rw [show ((0 : Nat) : Int) = 0 from rfl] at h
  rw [h]
  rfl
end Go.Sh.c08

namespace Go.Sh.c08
open p06 (Bd inR inR_iff isQ isQ_iff ofN)
open p07 (tab tab_len tab_getD tab_ext eq_tab tw bk gS)

def nl (l : List Int) : List Nat := l.map Int.toNat
def AllM (l : List Nat) : Prop := ∀ n ∈ l, n = 16 ∨ n = 128
theorem nl_all {l : List Int} (h : AllN l) : AllM (nl l) := fun n hn => by
  obtain ⟨m, hm, rfl⟩ := List.mem_map.1 hn
  rcases h m hm with rfl | rfl
  · exact .inl rfl
  · exact .inr rfl
theorem nl_sum : ∀ {l : List Int}, AllN l → ((nl l).sum : Int) = l.sum
  | [], _ => rfl
  | a :: r, h => by
    have h1 := nl_sum h.tail
    have h2 := h.head
    unfold nl at h1 ⊢
    simp only [List.map_cons, List.sum_cons]
    omega
theorem AllM.tail {a : Nat} {l : List Nat} (h : AllM (a :: l)) : AllM l := fun n hn => h n (by simp [hn])
theorem AllM.head {a : Nat} {l : List Nat} (h : AllM (a :: l)) : a = 16 ∨ a = 128 := h a (by simp)
/-- The places where blocks meet. -/
def pls : Nat → List Nat → List (Nat × Nat)
  | p, a :: b :: r => (p + a, min a b) :: pls (p + a) (b :: r)
  | _, _ => []
def toY (q : Nat × Nat) : (Int × (Int × Unit)) × Unit := (((q.1 : Int), ((q.2 : Int), ())), ())
section
variable {sT : Ty} {step : ((Int × (Int × Unit)) × Unit) → sT.den → Option (Bool × sT.den)}
theorem i67l0_eq (N : Nat) {L : List Int} (hA : AllN L) (hl : L.length ≤ 1000) : ∀ (s : List Int) (n i at' : Nat) (g : sT.den), L.drop i = s → at' ≤ 128 * i → i ≤ L.length → s.length < n →
    i67l0 N sT step n L (at' : Int) ((i + 1 : Nat) : Int) g = (runL step ((pls at' (nl s)).map toY) g).map fun q => (q.1, inOut ((), ()) ((), ()) q.2) := by
  intro s
  induction s with
  | nil =>
    intro n i at' g hd _ hi hn
    obtain ⟨n, rfl⟩ : ∃ n', n = n' + 1 := ⟨n - 1, by simp at hn; omega⟩
    have := ge_of_drop hd
    have h1 : ¬ ((i + 1 : Nat) : Int) < (L.length : Int) := by omega
    simp only [i67l0, h1, decide_false, cond_false]
    rfl
  | cons a r ih =>
    intro n i at' g hd hat hi hn
    obtain ⟨n, rfl⟩ : ∃ n', n = n' + 1 := ⟨n - 1, by simp at hn; omega⟩
    have hlt := lt_of_drop hd
    have ha : L.getD i 0 = a := getD_of_drop hd
    have hr := drop_of_drop hd
    have hav := hA a (by rw [← ha]; exact getD_mem hlt)
    cases r with
    | nil =>
      have := ge_of_drop hr
      have h1 : ¬ ((i + 1 : Nat) : Int) < (L.length : Int) := by omega
      simp only [i67l0, h1, decide_false, cond_false]
      rfl
    | cons b r =>
      have hlt2 := lt_of_drop hr
      have hb : L.getD (i + 1) 0 = b := getD_of_drop hr
      have hbv := hA b (by rw [← hb]; exact getD_mem hlt2)
      have w1 : IntKind.i64.wrap (((i + 1 : Nat) : Int) - 1) = (i : Int) := by rw [w64 (by omega) (by omega)]; omega
      have w2 : IntKind.i64.wrap ((at' : Int) + a) = ((at' + a.toNat : Nat) : Int) := by rw [w64 (by omega) (by omega)]; omega
      have w3 : IntKind.i64.wrap (((i + 1 : Nat) : Int) + 1) = ((i + 1 + 1 : Nat) : Int) := by rw [w64 (by omega) (by omega)]; omega
      have hmin : (if b < a then b else a) = ((min a.toNat b.toNat : Nat) : Int) := by split <;> omega
      have ih' := fun g => ih n (i + 1) (at' + a.toNat) g hr (by omega) (by omega) (by simp at hn ⊢; omega)
      simp only [i67l0, w1, show ((i + 1 : Nat) : Int) < (L.length : Int) by omega, show (0 : Int) ≤ (i : Int) by omega, show (i : Int) < (L.length : Int) by omega, show (0 : Int) ≤ ((i + 1 : Nat) : Int) by omega, decide_true, Bool.and_self, cond_true, Int.toNat_natCast, ha, hb, w2, hmin, w3, bindS]
      show (step (toY (at' + a.toNat, min a.toNat b.toNat)) g).bind _ = _
      simp only [nl, List.map_cons, pls, runL]
      cases step (toY (at' + a.toNat, min a.toNat b.toNat)) g with
      | none => rfl
      | some q =>
        simp only [Option.bind_some]
        cases q.1 with
        | false => rfl
        | true =>
          simp only [Bool.not_true, cond_false, cond_true]
          rw [ih']
          rfl
theorem i67_eq {N : Nat} (hN : 10000 ≤ N) {L : List Int} (hA : AllN L) (hl : L.length ≤ 1000) (g : sT.den) : i67F N sT step L g = (runL step ((pls 0 (nl L)).map toY) g).map (·.1) := by
  have h := i67l0_eq (step := step) N hA hl L N 0 0 g rfl (by omega) (by omega) (by omega)
  rw [show ((0 : Nat) : Int) = 0 from rfl, show ((0 + 1 : Nat) : Int) = 1 from rfl] at h
  unfold i67F
  rw [h]
  cases runL step ((pls 0 (nl L)).map toY) g with
  | none => rfl
  | some q => obtain ⟨q1, q2⟩ := q; cases q2 <;> rfl
end
theorem lapV_far {bw : Bool} {N p l q : Nat} {S : Int} {x : List Int} (hp : p + l / 2 ≤ x.length) (h : SqR S q x) (hq : q ≤ p + l / 2) : SqR S (p + l / 2) (lapV bw N p l x) := fun j hj => by
  rw [lapV_at bw N hp, lapG_far bw N x (.inr hj)]
  exact h j (by omega)
theorem rounds1 {N : Nat} (hN : 10000 ≤ N) : ∀ (l : List Nat) (p q : Nat) (v : List Int) (u1 u2 u3 : Unit × Unit), AllM l → (∀ a r, l = a :: r → q ≤ p + a / 2) → SqR 1152921504606846976 q v → p + l.sum ≤ v.length → v.length ≤ 1000000 →
    foldR (fun y o => f32v1r0d N y (o, ((), ()))) ((pls p l).map toY) (u1, ((u2, ()), (u3, (v, ())))) = some (.inl (u1, ((u2, ()), (u3, (flds false N p l v, ())))))
  | [], _, _, _, _, _, _, _, _, _, _, _ => rfl
  | [_], _, _, _, _, _, _, _, _, _, _, _ => rfl
  | a :: b :: r, p, q, v, u1, u2, u3, hA, hq, hs, hx, hv => by
    have h1 := hA.head
    have h2 := hA.tail.head
    have hq' := hq a (b :: r) rfl
    simp only [List.sum_cons] at hx
    have hl : Lap (min a b) := ⟨by omega⟩
    have ha : min a b ≤ a := Nat.min_le_left a b
    have hb : min a b ≤ b := Nat.min_le_right a b
    have hr : f32v1r0d N (toY (p + a, min a b)) ((u1, ((u2, ()), (u3, (v, ())))), ((), ())) = some (.inl (u1, ((u2, ()), (u3, (lapV false N (p + a) (min a b) v, ()))))) := by
      unfold f32v1r0d f32v1r0c toY
      simp only
      rw [f46v1_eq hN u2 hl (by omega) (by omega) hv (fun j hj => hs j (by omega))]
      rfl
    have hrest := rounds1 hN (b :: r) (p + a) (p + a + min a b / 2) (lapV false N (p + a) (min a b) v) u1 u2 u3 hA.tail (fun c r' e => by cases e; omega) (lapV_far (by omega) hs (by omega)) (by rw [lapV_len]; simp only [List.sum_cons]; omega) (by rw [lapV_len]; exact hv)
    simp only [pls, List.map_cons, foldR, hr, Option.bind_some, Sum.elim_inl]
    rw [hrest]
    rfl
theorem rounds3 {N : Nat} (hN : 10000 ≤ N) : ∀ (l : List Nat) (p q : Nat) (v : List Int) (u1 u2 u3 : Unit × Unit), AllM l → (∀ a r, l = a :: r → q ≤ p + a / 2) → SqR 18446744073709551616 q v → p + l.sum ≤ v.length → v.length ≤ 1000000 →
    foldR (fun y o => f32v3r0d N y (o, ((), ()))) ((pls p l).map toY) (u1, ((u2, ()), (u3, (v, ())))) = some (.inl (u1, ((u2, ()), (u3, (flds true N p l v, ())))))
  | [], _, _, _, _, _, _, _, _, _, _, _ => rfl
  | [_], _, _, _, _, _, _, _, _, _, _, _ => rfl
  | a :: b :: r, p, q, v, u1, u2, u3, hA, hq, hs, hx, hv => by
    have h1 := hA.head
    have h2 := hA.tail.head
    have hq' := hq a (b :: r) rfl
    simp only [List.sum_cons] at hx
    have hl : Lap (min a b) := ⟨by omega⟩
    have ha : min a b ≤ a := Nat.min_le_left a b
    have hb : min a b ≤ b := Nat.min_le_right a b
    have hr : f32v3r0d N (toY (p + a, min a b)) ((u1, ((u2, ()), (u3, (v, ())))), ((), ())) = some (.inl (u1, ((u2, ()), (u3, (lapV true N (p + a) (min a b) v, ()))))) := by
      unfold f32v3r0d f32v3r0c toY
      simp only
      rw [f46v3_eq hN u2 hl (by omega) (by omega) hv (fun j hj => hs j (by omega))]
      rfl
    have hrest := rounds3 hN (b :: r) (p + a) (p + a + min a b / 2) (lapV true N (p + a) (min a b) v) u1 u2 u3 hA.tail (fun c r' e => by cases e; omega) (lapV_far (by omega) hs (by omega)) (by rw [lapV_len]; simp only [List.sum_cons]; omega) (by rw [lapV_len]; exact hv)
    simp only [pls, List.map_cons, foldR, hr, Option.bind_some, Sum.elim_inl]
    rw [hrest]
    rfl
theorem f32v1_eq {N : Nat} (hN : 10000 ≤ N) {L : List Int} (hA : AllN L) (hl : L.length ≤ 1000) {x : List Int} (hx : (x.length : Int) = L.sum) (hs : SqR 1152921504606846976 0 x) (u : Unit × Unit) : f32v1F N x L u = some ((flds false N 0 (nl L) x, ()), ()) := by
  have hb := sum_bd hA
  have hn := nl_sum hA
  have hf := rounds1 hN (nl L) 0 0 x ((), ()) u ((), ()) (nl_all hA) (fun _ _ _ => Nat.zero_le _) hs (by omega) (by omega)
  have hstep := runL_step (fun (y : (Int × (Int × Unit)) × Unit) o => f32v1r0d N y (o, ((), ()))) ((pls 0 (nl L)).map toY) (((), ()), ((u, ()), (((), ()), (x, ()))))
  rw [hf] at hstep
  have hF : f32v1r0F N ((), (L, ())) u x = some ((((), ()), ((u, ()), (((), ()), (flds false N 0 (nl L) x, ())))), ()) := by
    unfold f32v1r0F
    rw [show (((), (L, ())) : Unit × (List Int × Unit)).2.1 = L from rfl, i67_eq hN hA hl]
    exact (congrArg (fun z => Option.bind z (finish f32v1r0p f32v1r0x)) hstep).trans rfl
  unfold f32v1F f47F
  simp only [Option.bind_some]
  rw [hF]
  rfl
theorem f32v3_eq {N : Nat} (hN : 10000 ≤ N) {L : List Int} (hA : AllN L) (hl : L.length ≤ 1000) {x : List Int} (hx : (x.length : Int) = L.sum) (hs : SqR 18446744073709551616 0 x) (u : Unit × Unit) : f32v3F N x L u = some ((flds true N 0 (nl L) x, ()), ()) := by
  have hb := sum_bd hA
  have hn := nl_sum hA
  have hf := rounds3 hN (nl L) 0 0 x ((), ()) u ((), ()) (nl_all hA) (fun _ _ _ => Nat.zero_le _) hs (by omega) (by omega)
  have hstep := runL_step (fun (y : (Int × (Int × Unit)) × Unit) o => f32v3r0d N y (o, ((), ()))) ((pls 0 (nl L)).map toY) (((), ()), ((u, ()), (((), ()), (x, ()))))
  rw [hf] at hstep
  have hF : f32v3r0F N ((), (L, ())) u x = some ((((), ()), ((u, ()), (((), ()), (flds true N 0 (nl L) x, ())))), ()) := by
    unfold f32v3r0F
    rw [show (((), (L, ())) : Unit × (List Int × Unit)).2.1 = L from rfl, i67_eq hN hA hl]
    exact (congrArg (fun z => Option.bind z (finish f32v3r0p f32v3r0x)) hstep).trans rfl
  unfold f32v3F f47F
  simp only [Option.bind_some]
  rw [hF]
  rfl
end Go.Sh.c08

namespace Go.Sh.c08
open p06 (Bd inR inR_iff isQ isQ_iff ofN)
open p07 (tab tab_len tab_getD tab_ext tab_succ eq_tab tw bk gS)

def flc (N l : Nat) : List (Int × (Int × (Int × Unit))) := tab (l / 2) fun i => ofN N ((l : Int) - 2 * (i : Int) - 1) (8 * (l : Int))
theorem f63_eq {N : Nat} (hN : 10000 ≤ N) {l : Nat} (hl : Lap l) : f63F N (l : Int) = some ((flc N l, ()), ((), ())) := by
  have hb : l ≤ 128 := by rcases hl.v with rfl | rfl <;> omega
  have wh : IntKind.i64.wrap (Int.tdiv (l : Int) 2) = ((l / 2 : Nat) : Int) := by
    rw [Int.tdiv_eq_ediv_of_nonneg (by omega), w64 (by omega) (by omega)]; omega
  obtain ⟨s, h1, h2⟩ := p07.idx_loop (m := l / 2) (f := fun n (v : List (Int × (Int × (Int × Unit)))) i => f63l0 N n v (l : Int) ((l / 2 : Nat) : Int) (i : Int)) (fun i v => v = tab i fun i => ofN N ((l : Int) - 2 * (i : Int) - 1) (8 * (l : Int))) (fun i v => v ++ [ofN N ((l : Int) - 2 * (i : Int) - 1) (8 * (l : Int))])
    (fin := fun v => some ((v, ()), ((), ()))) (fun n i v hi hv => by
    refine ⟨?_, by rw [hv, tab_succ]⟩
    have hlv : v.length = i := by rw [hv, tab_len]
    have w3 : IntKind.i64.wrap (IntKind.i64.wrap ((l : Int) - IntKind.i64.wrap (2 * (i : Int))) - 1) = (l : Int) - 2 * (i : Int) - 1 := by
      rw [w64 (n := 2 * (i : Int)) (by omega) (by omega), w64 (n := (l : Int) - 2 * (i : Int)) (by omega) (by omega), w64 (by omega) (by omega)]
    have w4 : IntKind.i64.wrap (8 * (l : Int)) = 8 * (l : Int) := w64 (by omega) (by omega)
    have ho := p07.of_ref (N := N) (by omega) hl.d (hl.n hi)
    simp only [f63l0, w3, w4, show (i : Int) < ((l / 2 : Nat) : Int) by omega, decide_true, cond_true, ho, Option.bind_some, List.length_cons, List.length_nil, show (v.length + (0 + 1)) * 24 ≤ 140737488355328 by omega]
    rw [w64s i (by omega), bindS]
    rfl) (fun n v _ => by
    have c1 : ¬ ((l / 2 : Nat) : Int) < ((l / 2 : Nat) : Int) := by omega
    simp only [f63l0, c1, decide_false, cond_false]) (N := N) (by omega) (s0 := []) rfl
  unfold f63F
  rw [wh]
  rw [show ((0 : Nat) : Int) = 0 from rfl] at h2
  rw [h2, h1]
  rfl
theorem f41l2_eq {N : Nat} (hN : 10000 ≤ N) (bw : Bool) {p l : Nat} {x : List Int} (hl : Lap l) (hlp : l / 2 ≤ p) (hpx : p + l / 2 ≤ x.length) (hx : x.length ≤ 1000000) (hs : SqR 1208925819614629174706176 (p - l / 2) x) :
    f41l2 N N x bw (p : Int) (flc N l) (((flc N l).length : Nat) : Int) 0 = some ((lapV bw N p l x, ()), ((), ())) := by
  have hb : l ≤ 128 := by rcases hl.v with rfl | rfl <;> omega
  have hfl : (flc N l).length = l / 2 := tab_len _ _
  have h := lap_loop bw N hlp hpx (f := fun n v i => f41l2 N n v bw (p : Int) (flc N l) (((flc N l).length : Nat) : Int) (i : Int)) (fin := fun v => some ((v, ()), ((), ()))) (fun n i v hi hv r1 r2 => by
    have w1 : IntKind.i64.wrap (IntKind.i64.wrap ((p : Int) - 1) - (i : Int)) = ((p - 1 - i : Nat) : Int) := by
      rw [w64 (n := (p : Int) - 1) (by omega) (by omega), w64 (by omega) (by omega)]; omega
    have w2 : IntKind.i64.wrap ((p : Int) + (i : Int)) = ((p + i : Nat) : Int) := by rw [w64 (by omega) (by omega)]; rfl
    have hfi : (flc N l).getD i (0, (0, (0, ()))) = ofN N ((l : Int) - 2 * (i : Int) - 1) (8 * (l : Int)) := tab_getD hi
    have z1 : Bd 1099511627776 (x.getD (p - 1 - i) 0) := p07.bd_sq (by decide) (hs (p - 1 - i) (by omega))
    have z2 : Bd 1099511627776 (x.getD (p + i) 0) := p07.bd_sq (by decide) (hs (p + i) (by omega))
    have t1 := p07.tw_ref (N := N) (by omega) hl.d (hl.n hi) z1 z2
    have t2 := p07.bk_ref (N := N) (by omega) hl.d (hl.n hi) z1 z2
    have hrw : ∀ R : Int × (Int × (Int × Unit)), (R.1, (R.2.1, (R.2.2.1, ()))) = R := fun R => rfl
    cases bw with
    | true =>
      simp only [f41l2, hfl, w1, w2, hfi, hrw, show (i : Int) < ((l / 2 : Nat) : Int) by omega, show (0 : Int) ≤ (i : Int) by omega, show (0 : Int) ≤ ((p - 1 - i : Nat) : Int) by omega, show ((p - 1 - i : Nat) : Int) < (v.length : Int) by omega, show (0 : Int) ≤ ((p + i : Nat) : Int) by omega, show ((p + i : Nat) : Int) < (v.length : Int) by omega, decide_true, Bool.and_self, cond_true, Int.toNat_natCast, r1, r2, t2, Option.bind_some, List.length_set]
      rw [w64s i (by omega), bindS]
      rfl
    | false =>
      simp only [f41l2, hfl, w1, w2, hfi, hrw, show (i : Int) < ((l / 2 : Nat) : Int) by omega, show (0 : Int) ≤ (i : Int) by omega, show (0 : Int) ≤ ((p - 1 - i : Nat) : Int) by omega, show ((p - 1 - i : Nat) : Int) < (v.length : Int) by omega, show (0 : Int) ≤ ((p + i : Nat) : Int) by omega, show ((p + i : Nat) : Int) < (v.length : Int) by omega, decide_true, Bool.and_self, cond_true, cond_false, Int.toNat_natCast, r1, r2, t1, Option.bind_some, List.length_set]
      rw [w64s i (by omega), bindS]
      rfl) (fun n v => by
    have c1 : ¬ ((l / 2 : Nat) : Int) < ((l / 2 : Nat) : Int) := by omega
    simp only [f41l2, hfl, c1, decide_false, cond_false]) (M := N) (by omega)
  exact h
theorem f41l0_eq {N : Nat} (hN : 10000 ≤ N) (bw : Bool) {L : List Int} (hA : AllN L) (hl : L.length ≤ 1000) : ∀ (s : List Int) (n i p q : Nat) (v : List Int), L.drop i = s → s.length < n → p ≤ 128 * i → i ≤ L.length → (∀ a r, s = a :: r → q ≤ p + a.toNat / 2) → SqR 1208925819614629174706176 q v → p + (nl s).sum ≤ v.length → v.length ≤ 1000000 →
    f41l0 N n v L bw (flc N 16) (flc N 128) (p : Int) (i : Int) = some ((flds bw N p (nl s) v, ()), ((), ())) := by
  intro s
  induction s with
  | nil =>
    intro n i p q v hd hn _ hi _ _ _ _
    obtain ⟨n, rfl⟩ : ∃ n', n = n' + 1 := ⟨n - 1, by simp at hn; omega⟩
    have := ge_of_drop hd
    have h1 : ¬ ((i + 1 : Nat) : Int) < (L.length : Int) := by omega
    simp only [f41l0, w64s i (show i < 9223372036854775807 by omega), h1, decide_false, cond_false]
    rfl
  | cons a r ih =>
    intro n i p q v hd hn hp hi hq hs hx hv
    obtain ⟨n, rfl⟩ : ∃ n', n = n' + 1 := ⟨n - 1, by simp at hn; omega⟩
    have hlt := lt_of_drop hd
    have ha : L.getD i 0 = a := getD_of_drop hd
    have hr := drop_of_drop hd
    have hav := hA a (by rw [← ha]; exact getD_mem hlt)
    cases r with
    | nil =>
      have := ge_of_drop hr
      have h1 : ¬ ((i + 1 : Nat) : Int) < (L.length : Int) := by omega
      simp only [f41l0, w64s i (show i < 9223372036854775807 by omega), h1, decide_false, cond_false]
      rfl
    | cons b r =>
      have hlt2 := lt_of_drop hr
      have hb : L.getD (i + 1) 0 = b := getD_of_drop hr
      have hbv := hA b (by rw [← hb]; exact getD_mem hlt2)
      have hq' := hq a (b :: r) rfl
      simp only [nl, List.map_cons, List.sum_cons] at hx
      have w2 : IntKind.i64.wrap ((p : Int) + a) = ((p + a.toNat : Nat) : Int) := by rw [w64 (by omega) (by omega)]; omega
      have hmin : (if b < a then b else a) = ((min a.toNat b.toNat : Nat) : Int) := by split <;> omega
      have hL : Lap (min a.toNat b.toNat) := ⟨by omega⟩
      have hma : min a.toNat b.toNat ≤ a.toNat := Nat.min_le_left ..
      have hmb : min a.toNat b.toNat ≤ b.toNat := Nat.min_le_right ..
      have hlap := f41l2_eq hN bw (p := p + a.toNat) (x := v) hL (by omega) (by omega) hv (fun j hj => hs j (by omega))
      have ih' := ih n (i + 1) (p + a.toNat) (p + a.toNat + min a.toNat b.toNat / 2) (lapV bw N (p + a.toNat) (min a.toNat b.toNat) v) hr (by simp at hn ⊢; omega) (by omega) (by omega) (fun c r' e => by cases e; omega) (lapV_far (by omega) hs (by omega)) (by rw [lapV_len]; simp only [nl, List.map_cons, List.sum_cons]; omega) (by rw [lapV_len]; exact hv)
      have hgoal : flds bw N p (nl (a :: b :: r)) v = flds bw N (p + a.toNat) (nl (b :: r)) (lapV bw N (p + a.toNat) (min a.toNat b.toNat) v) := rfl
      rw [hgoal]
      simp only [f41l0, w64s i (show i < 9223372036854775807 by omega), show ((i + 1 : Nat) : Int) < (L.length : Int) by omega, show (0 : Int) ≤ (i : Int) by omega, show (i : Int) < (L.length : Int) by omega, show (0 : Int) ≤ ((i + 1 : Nat) : Int) by omega, decide_true, Bool.and_self, cond_true, Int.toNat_natCast, ha, hb, w2, hmin, bindS]
      rcases hL.v with e | e
      · rw [e] at hlap ih' ⊢
        rw [show (((16 : Nat) : Int) == 128) = false from rfl]
        simp only [cond_false]
        rw [hlap]
        simp only [Option.bind_some]
        exact ih'
      · rw [e] at hlap ih' ⊢
        rw [show (((128 : Nat) : Int) == 128) = true from rfl]
        simp only [cond_true]
        rw [hlap]
        simp only [Option.bind_some]
        exact ih'
theorem f41_eq {N : Nat} (hN : 10000 ≤ N) (bw : Bool) {L : List Int} (hA : AllN L) (hl : L.length ≤ 1000) {x : List Int} (hx : (x.length : Int) = L.sum) (hs : SqR 1208925819614629174706176 0 x) : f41F N x L bw = some ((flds bw N 0 (nl L) x, ()), ((), ())) := by
  have hb := sum_bd hA
  have hn := nl_sum hA
  have h := f41l0_eq hN bw hA hl L N 0 0 0 x rfl (by omega) (by omega) (by omega) (fun _ _ _ => Nat.zero_le _) hs (by omega) (by omega)
  rw [show ((0 : Nat) : Int) = 0 from rfl] at h
  have h16 := f63_eq hN (l := 16) ⟨.inl rfl⟩
  have h128 := f63_eq hN (l := 128) ⟨.inr rfl⟩
  rw [show ((16 : Nat) : Int) = 16 from rfl] at h16
  rw [show ((128 : Nat) : Int) = 128 from rfl] at h128
  have hlen : (([] : List Int).length + x.length) * 8 ≤ 140737488355328 := by simp; omega
  unfold f41F
  simp only [hlen, decide_true, cond_true, List.append_eq, List.nil_append]
  rw [h16, h128]
  simp only [Option.bind_some]
  rw [h]
  rfl
/-! ### Fold and Unfold -/
theorem sqR_of {B S : Int} (hB : 0 ≤ B) (hS : B * B ≤ S) {x : List Int} (h : x.all (inR B) = true) : SqR S 0 x := fun j _ => Int.le_trans (p07.sqL_of hB h j) hS
def resFold (N : Nat) (bw : Bool) (B : Int) (x l : List Int) : ((List Int) × Unit) × (Unit × (Int × Unit)) := (((if er8 B x l = 0 then flds bw N 0 (nl l) x else []), ()), ((), (er8 B x l, ())))
theorem f19_eq {N : Nat} (hN : 200000 ≤ N) {x l : List Int} (hx : x.length ≤ 1200) (hl : l.length ≤ 600) : f19F N x l = some (resFold N false 65536 x l) := by
  unfold f19F resFold
  rw [f30_eq (by decide) (by decide) (by omega) (by omega) (by omega) (by omega)]
  simp only [Option.bind_some]
  by_cases e : er8 65536 x l = 0
  · obtain ⟨h1, h2⟩ := er8_zero e
    obtain ⟨k1, k2, k3⟩ := erS_zero h1
    simp only [e, bne_self_eq_false, cond_false, if_true]
    rw [f31_eq N (by omega)]
    simp only [Option.bind_some]
    rw [f32v1_eq (by omega) k1 (by omega) k3 (sqR_of (B := 65536) (by decide) (by decide) h2)]
    rfl
  · have e' : (er8 65536 x l != 0) = true := by simpa using e
    simp only [e, e', cond_true, if_false]
theorem f21_eq {N : Nat} (hN : 200000 ≤ N) {x l : List Int} (hx : x.length ≤ 1200) (hl : l.length ≤ 600) : f21F N x l = some (resFold N true 33554432 x l) := by
  unfold f21F resFold
  rw [f30_eq (by decide) (by decide) (by omega) (by omega) (by omega) (by omega)]
  simp only [Option.bind_some]
  by_cases e : er8 33554432 x l = 0
  · obtain ⟨h1, h2⟩ := er8_zero e
    obtain ⟨k1, k2, k3⟩ := erS_zero h1
    simp only [e, bne_self_eq_false, cond_false, if_true]
    rw [f31_eq N (by omega)]
    simp only [Option.bind_some]
    rw [f32v3_eq (by omega) k1 (by omega) k3 (sqR_of (B := 33554432) (by decide) (by decide) h2)]
    rfl
  · have e' : (er8 33554432 x l != 0) = true := by simpa using e
    simp only [e, e', cond_true, if_false]
theorem f20_eq {N : Nat} (hN : 200000 ≤ N) {x l : List Int} (hx : x.length ≤ 1200) (hl : l.length ≤ 600) : f20F N x l = some (resFold N false 65536 x l) := by
  unfold f20F resFold er8
  rw [f39_eq (by omega) (by omega)]
  simp only [Option.bind_some]
  by_cases e : erS x l = 0
  · obtain ⟨k1, k2, k3⟩ := erS_zero e
    simp only [e, bne_self_eq_false, cond_false, if_true]
    rw [f29_eq (by decide) (by decide) (by omega) (by omega)]
    simp only [Option.bind_some]
    by_cases h2 : x.all (inR 65536) = true
    · rw [h2, f41_eq (by omega) false k1 (by omega) k3 (sqR_of (B := 65536) (by decide) (by decide) h2)]
      rfl
    · rw [show x.all (inR 65536) = false by simpa using h2]; rfl
  · have e' : (erS x l != 0) = true := by simpa using e
    simp only [e, e', cond_true, if_false]
end Go.Sh.c08

namespace Go.Sh.c08.p07
open p06 (Bd inR inR_iff isQ isQ_iff sc fwT bkT Fac ofN OfOk of_ok fwT_grows bkT_grows sq0 le_of_sq sq_le)
end Go.Sh.c08.p07
namespace Go.Sh.c08
open p06 (Bd inR inR_iff isQ isQ_iff ofN)
open p07 (tab tab_len tab_getD tab_ext tab_succ eq_tab tw bk gS fwd inv lv planOf)

def blk (f : Nat → List Int → List Int) : List Nat → List Int → List Int
  | [], _ => []
  | n :: r, x => f (lv n) (x.take n) ++ blk f r (x.drop n)
theorem lv_ok {n : Nat} (h : n = 16 ∨ n = 128) : lv n ≤ 6 ∧ n = 2 ^ (lv n + 1) := by
  rcases h with rfl | rfl
  · rw [show (16 : Nat) = 2 ^ (3 + 1) from rfl, p07.lv_eq]; exact ⟨by omega, rfl⟩
  · rw [show (128 : Nat) = 2 ^ (6 + 1) from rfl, p07.lv_eq]; exact ⟨by omega, rfl⟩
theorem blk_len (f : Nat → List Int → List Int) (hf : ∀ l x, (f l x).length = 2 ^ (l + 1)) : ∀ (l : List Nat) (x : List Int), AllM l → (blk f l x).length = l.sum
  | [], _, _ => rfl
  | n :: r, x, h => by
    have h1 := (lv_ok h.head).2
    simp only [blk, List.length_append, hf, blk_len f hf r _ h.tail, List.sum_cons]
    omega
theorem all_take {B : Int} {x : List Int} (h : x.all (inR B) = true) (n : Nat) : (x.take n).all (inR B) = true := by
  rw [List.all_eq_true] at h ⊢
  exact fun v hv => h v (List.mem_of_mem_take hv)
theorem all_drop {B : Int} {x : List Int} (h : x.all (inR B) = true) (n : Nat) : (x.drop n).all (inR B) = true := by
  rw [List.all_eq_true] at h ⊢
  exact fun v hv => h v (List.mem_of_mem_drop hv)
theorem f35_blk {N : Nat} (hN : 2000 ≤ N) {n : Nat} (hn : n = 16 ∨ n = 128) {x : List Int} (hx : x.length = n) (hr : x.all (inR 1048576) = true) : f35F N x = some ((fwd N (lv n) x, ()), ((), (0, ()))) := by
  obtain ⟨h1, h2⟩ := lv_ok hn
  have he : p07.er1 1048576 x = 0 := by
    unfold p07.er1
    rw [hx, h2, if_pos (p07.is_size _ h1), if_pos hr]
  rw [p07.f11_eq hN]
  unfold p07.resF
  rw [he, if_pos rfl, hx]
theorem f61_blk {N : Nat} (hN : 2000 ≤ N) {n : Nat} (hn : n = 16 ∨ n = 128) {x : List Int} (hx : x.length = n) (hr : x.all (inR 33554432) = true) : f61F N x = some ((inv N (lv n) x, ()), ((), (0, ()))) := by
  obtain ⟨h1, h2⟩ := lv_ok hn
  have he : p07.er1 33554432 x = 0 := by
    unfold p07.er1
    rw [hx, h2, if_pos (p07.is_size _ h1), if_pos hr]
  rw [p07.f14_eq hN]
  unfold p07.resI
  rw [he, if_pos rfl, hx]
theorem f34l0_eq {N : Nat} (hN : 10000 ≤ N) {L : List Int} (hA : AllN L) (hl : L.length ≤ 1000) (u : Unit × Unit) : ∀ (s : List Int) (n i : Nat) (v x : List Int), L.drop i = s → s.length < n → i ≤ L.length → v.length ≤ 128 * i → x.all (inR 1048576) = true → x.length = (nl s).sum → x.length ≤ 1000000 →
    f34l0 N n v x u L (L.length : Int) (i : Int) = some ((v ++ blk (fwd N) (nl s) x, ()), ((), ())) := by
  intro s
  induction s with
  | nil =>
    intro n i v x hd hn hi _ _ _ _
    obtain ⟨n, rfl⟩ : ∃ n', n = n' + 1 := ⟨n - 1, by simp at hn; omega⟩
    have := ge_of_drop hd
    have h1 : ¬ (i : Int) < (L.length : Int) := by omega
    simp only [f34l0, h1, decide_false, cond_false, nl, List.map_nil, blk, List.append_nil]
  | cons a r ih =>
    intro n i v x hd hn hi hv hr hx hxl
    obtain ⟨n, rfl⟩ : ∃ n', n = n' + 1 := ⟨n - 1, by simp at hn; omega⟩
    have hlt := lt_of_drop hd
    have ha : L.getD i 0 = a := getD_of_drop hd
    have hav := hA a (by rw [← ha]; exact getD_mem hlt)
    have hm : a.toNat = 16 ∨ a.toNat = 128 := by omega
    simp only [nl, List.map_cons, List.sum_cons] at hx
    have hf := f35_blk (N := N) (by omega) hm (x := x.take a.toNat) (by rw [List.length_take]; omega) (all_take hr _)
    have hfl := p07.fwd_len N (lv a.toNat) (x.take a.toNat)
    have h2 := (lv_ok hm).2
    have ih' := ih n (i + 1) (v ++ fwd N (lv a.toNat) (x.take a.toNat)) (x.drop a.toNat) (drop_of_drop hd) (by simp at hn; omega) (by omega) (by rw [List.length_append, hfl]; omega) (all_drop hr _) (by rw [List.length_drop]; simp only [nl]; omega) (by rw [List.length_drop]; omega)
    simp only [f34l0, show (i : Int) < (L.length : Int) by omega, show (0 : Int) ≤ (i : Int) by omega, decide_true, Bool.and_self, cond_true, Int.toNat_natCast, ha, show (0 : Int) ≤ a by omega, Int.le_refl, show a ≤ (x.length : Int) by omega, hf, Option.bind_some, hfl, show (v.length + 2 ^ (lv a.toNat + 1)) * 8 ≤ 140737488355328 by omega]
    rw [w64s i (by omega), bindS, List.append_eq, ih']
    simp only [nl, List.map_cons, blk, List.append_assoc]
theorem f34v1l0_eq {N : Nat} (hN : 10000 ≤ N) {L : List Int} (hA : AllN L) (hl : L.length ≤ 1000) (u : Unit × Unit) : ∀ (s : List Int) (n i : Nat) (v x : List Int), L.drop i = s → s.length < n → i ≤ L.length → v.length ≤ 128 * i → x.all (inR 33554432) = true → x.length = (nl s).sum → x.length ≤ 1000000 →
    f34v1l0 N n v x u L (L.length : Int) (i : Int) = some ((v ++ blk (inv N) (nl s) x, ()), ((), ())) := by
  intro s
  induction s with
  | nil =>
    intro n i v x hd hn hi _ _ _ _
    obtain ⟨n, rfl⟩ : ∃ n', n = n' + 1 := ⟨n - 1, by simp at hn; omega⟩
    have := ge_of_drop hd
    have h1 : ¬ (i : Int) < (L.length : Int) := by omega
    simp only [f34v1l0, h1, decide_false, cond_false, nl, List.map_nil, blk, List.append_nil]
  | cons a r ih =>
    intro n i v x hd hn hi hv hr hx hxl
    obtain ⟨n, rfl⟩ : ∃ n', n = n' + 1 := ⟨n - 1, by simp at hn; omega⟩
    have hlt := lt_of_drop hd
    have ha : L.getD i 0 = a := getD_of_drop hd
    have hav := hA a (by rw [← ha]; exact getD_mem hlt)
    have hm : a.toNat = 16 ∨ a.toNat = 128 := by omega
    simp only [nl, List.map_cons, List.sum_cons] at hx
    have hf := f61_blk (N := N) (by omega) hm (x := x.take a.toNat) (by rw [List.length_take]; omega) (all_take hr _)
    have hfl := p07.inv_len N (lv a.toNat) (x.take a.toNat)
    have h2 := (lv_ok hm).2
    have ih' := ih n (i + 1) (v ++ inv N (lv a.toNat) (x.take a.toNat)) (x.drop a.toNat) (drop_of_drop hd) (by simp at hn; omega) (by omega) (by rw [List.length_append, hfl]; omega) (all_drop hr _) (by rw [List.length_drop]; simp only [nl]; omega) (by rw [List.length_drop]; omega)
    simp only [f34v1l0, show (i : Int) < (L.length : Int) by omega, show (0 : Int) ≤ (i : Int) by omega, decide_true, Bool.and_self, cond_true, Int.toNat_natCast, ha, show (0 : Int) ≤ a by omega, Int.le_refl, show a ≤ (x.length : Int) by omega, hf, Option.bind_some, hfl, show (v.length + 2 ^ (lv a.toNat + 1)) * 8 ≤ 140737488355328 by omega]
    rw [w64s i (by omega), bindS, List.append_eq, ih']
    simp only [nl, List.map_cons, blk, List.append_assoc]
end Go.Sh.c08

namespace Go.Sh.c08
open p06 (Bd inR inR_iff isQ isQ_iff ofN)
open p07 (tab tab_len tab_getD tab_ext tab_succ eq_tab tw bk gS fwd inv lv planOf itS)

/-! ### How large things are -/
theorem T_sq {N : Nat} (hN : 100 ≤ N) (bw : Bool) {x y n d S : Int} (hd : isQ d = true) (hn : inR 1099511627776 n = true) (hx : x * x ≤ S) (hy : y * y ≤ S) : (T bw N n d x y).1 * (T bw N n d x y).1 ≤ gS S ∧ (T bw N n d x y).2 * (T bw N n d x y).2 ≤ gS S := by
  unfold T
  cases bw with
  | true => exact p07.bk_sq hN hd hn hx hy
  | false => exact p07.tw_sq hN hd hn hx hy
theorem lapG_sq {N : Nat} (hN : 100 ≤ N) (bw : Bool) {p l : Nat} (hl : Lap l) {x : List Int} {S : Int} (hs : SqR S (p - l / 2) x) (hlp : l / 2 ≤ p) {j : Nat} (hj : p ≤ j + l / 2 ∧ j < p + l / 2) : lapG bw N p l x j * lapG bw N p l x j ≤ gS S := by
  unfold lapG
  by_cases c1 : p ≤ j + l / 2 ∧ j < p
  · rw [if_pos c1]
    exact (T_sq hN bw hl.d (hl.n (i := p - 1 - j) (by omega)) (hs j (by omega)) (hs (2 * p - 1 - j) (by omega))).1
  · rw [if_neg c1]
    have c2 : p ≤ j ∧ j < p + l / 2 := by omega
    rw [if_pos c2]
    exact (T_sq hN bw hl.d (hl.n (i := j - p) (by omega)) (hs (2 * p - 1 - j) (by omega)) (hs j (by omega))).2
theorem flds_sq {N : Nat} (hN : 100 ≤ N) (bw : Bool) {S : Int} : ∀ (l : List Nat) (p q : Nat) (v : List Int), AllM l → (∀ a r, l = a :: r → q ≤ p + a / 2) → SqR S q v → (∀ j, v.getD j 0 * v.getD j 0 ≤ gS S) → p + l.sum ≤ v.length → ∀ j, (flds bw N p l v).getD j 0 * (flds bw N p l v).getD j 0 ≤ gS S
  | [], _, _, _, _, _, _, h, _ => h
  | [_], _, _, _, _, _, _, h, _ => h
  | a :: b :: r, p, q, v, hA, hq, hs, h, hx => by
    have h1 := hA.head
    have h2 := hA.tail.head
    have hq' := hq a (b :: r) rfl
    simp only [List.sum_cons] at hx
    have hl : Lap (min a b) := ⟨by omega⟩
    have ha : min a b ≤ a := Nat.min_le_left a b
    have hb : min a b ≤ b := Nat.min_le_right a b
    refine flds_sq hN bw (b :: r) (p + a) (p + a + min a b / 2) (lapV bw N (p + a) (min a b) v) hA.tail (fun c r' e => by cases e; omega) (lapV_far (by omega) hs (by omega)) (fun j => ?_) (by rw [lapV_len]; simp only [List.sum_cons]; omega)
    rw [lapV_at bw N (by omega)]
    by_cases c : p + a ≤ j + min a b / 2 ∧ j < p + a + min a b / 2
    · exact lapG_sq hN bw hl (fun j hj => hs j (by omega)) (by omega) c
    · rw [lapG_far bw N v (by omega)]; exact h j
theorem inv_sq {N : Nat} (hN : 100 ≤ N) {l : Nat} (hl : l ≤ 6) {x : List Int} {S : Int} (hS : 0 ≤ S) (h : p07.SqL S x) : p07.SqL (gS (itS (2 * l) (gS S))) (inv N l x) := fun j => by
  have sp := p07.preB_sq hN hl hS h
  have sm := p07.unmix_sq hN l _ _ (p07.itS_pos hS 1) hl (p07.preB_len N l x) sp
  have h0 : 0 ≤ gS (itS (2 * l) (gS S)) := p07.itS_pos (p07.itS_pos (p07.itS_pos hS 1) (2 * l)) 1
  rcases Nat.lt_or_ge j (2 ^ (l + 1)) with hj | hj
  · have hpp : 2 ^ (l + 1) = 2 * 2 ^ l := by rw [Nat.pow_succ]; omega
    unfold inv
    rw [tab_getD hj]
    unfold p07.outB p07.endB
    by_cases e : j % 2 = 0
    · rw [if_pos e]
      obtain ⟨k1, k2⟩ := p07.end_ok (n := 2 ^ (l + 1)) (k := j / 2) rfl (by omega) (by omega)
      exact (p07.bk_sq hN k1 k2 (sm (j / 2)).1 (sm (j / 2)).2).1
    · rw [if_neg e]
      obtain ⟨k1, k2⟩ := p07.end_ok (n := 2 ^ (l + 1)) (k := (2 ^ (l + 1) - 1 - j) / 2) rfl (by omega) (by omega)
      exact (p07.bk_sq hN k1 k2 (sm ((2 ^ (l + 1) - 1 - j) / 2)).1 (sm ((2 ^ (l + 1) - 1 - j) / 2)).2).2
  · rw [getD_out (by rw [p07.inv_len]; exact hj)]; omega
theorem sqL_take {S : Int} (hS : 0 ≤ S) {x : List Int} (h : p07.SqL S x) (n : Nat) : p07.SqL S (x.take n) := fun k => by
  rcases Nat.lt_or_ge k (x.take n).length with hk | hk
  · have : (x.take n).getD k 0 = x.getD k 0 := by
      rw [List.length_take] at hk
      simp [List.getD, List.getElem?_take, show k < n by omega]
    rw [this]; exact h k
  · rw [getD_out hk]; omega
theorem sqL_drop {S : Int} {x : List Int} (h : p07.SqL S x) (n : Nat) : p07.SqL S (x.drop n) := fun k => by
  have : (x.drop n).getD k 0 = x.getD (n + k) 0 := by simp [List.getD]
  rw [this]; exact h _
theorem sqL_app {S : Int} {a b : List Int} (ha : p07.SqL S a) (hb : p07.SqL S b) : p07.SqL S (a ++ b) := fun k => by
  rcases Nat.lt_or_ge k a.length with hk | hk
  · rw [p07.getD_app _ _ _ hk]; exact ha k
  · obtain ⟨j, rfl⟩ : ∃ j, k = j + a.length := ⟨k - a.length, by omega⟩
    rw [p07.getD_app']; exact hb j
theorem blk_inv_sq {N : Nat} (hN : 100 ≤ N) {S : Int} (hS : 0 ≤ S) : ∀ (l : List Nat) (x : List Int), AllM l → p07.SqL S x → p07.SqL (itS 14 S) (blk (inv N) l x)
  | [], _, _, _ => fun k => by
    have := p07.itS_pos hS 14
    rw [show blk (inv N) [] _ = [] from rfl, getD_out (by simp)]; omega
  | n :: r, x, hA, h => by
    obtain ⟨h1, h2⟩ := lv_ok hA.head
    refine sqL_app (fun k => ?_) (blk_inv_sq hN hS r _ hA.tail (sqL_drop h n))
    have h3 := inv_sq hN h1 hS (sqL_take hS h n) k
    have e : gS (itS (2 * lv n) (gS S)) = itS (2 * lv n + 2) S := by
      show gS (itS (2 * lv n) (itS 1 S)) = _
      rw [p07.itS_add]; rfl
    rw [e] at h3
    have h4 := p07.itS_le hS (12 - 2 * lv n) (2 * lv n + 2)
    rw [show 2 * lv n + 2 + (12 - 2 * lv n) = 14 by omega] at h4
    exact Int.le_trans h3 h4
theorem all_sq {B : Int} (hB : 0 ≤ B) {x : List Int} (h : p07.SqL (B * B) x) : x.all (inR B) = true := by
  rw [List.all_eq_true]
  intro v hv
  obtain ⟨i, hi, rfl⟩ := List.mem_iff_getElem.1 hv
  have := p07.bd_sq hB (h i)
  have e : x.getD i 0 = x[i] := by simp [List.getD, hi]
  rw [e] at this
  exact inR_iff.2 this
theorem fold_in {N : Nat} (hN : 100 ≤ N) (bw : Bool) {B C : Int} (hB : 0 ≤ B) (hC : 0 ≤ C) (hBC : gS (B * B) ≤ C * C) {x L : List Int} (hA : AllN L) (hx : (x.length : Int) = L.sum) (h : x.all (inR B) = true) : (flds bw N 0 (nl L) x).all (inR C) = true := by
  have hn := nl_sum hA
  have hs := p07.sqL_of hB h
  exact all_sq hC fun j => Int.le_trans (flds_sq hN bw (nl L) 0 0 x (nl_all hA) (fun _ _ _ => Nat.zero_le _) (fun j _ => hs j) (fun j => Int.le_trans (hs j) (p07.gS_le (p06.sq0 B))) (by omega) j) hBC
/-! ### The code -/
def resFwd (N : Nat) (x l : List Int) : ((List Int) × Unit) × (Unit × (Int × Unit)) := (((if er8 65536 x l = 0 then blk (fwd N) (nl l) (flds false N 0 (nl l) x) else []), ()), ((), (er8 65536 x l, ())))
def invL (N : Nat) (l : List Int) (c : List Int) : List Int := flds true N 0 (nl l) (blk (inv N) (nl l) c)
def resInv (N : Nat) (x l : List Int) : ((List Int) × Unit) × (Unit × (Int × Unit)) := (((if er8 2097152 x l = 0 then invL N l x else []), ()), ((), (er8 2097152 x l, ())))
theorem f14_eq {N : Nat} (hN : 200000 ≤ N) {x l : List Int} (hx : x.length ≤ 1200) (hl : l.length ≤ 600) : f14F N x l = some (resFwd N x l) := by
  unfold f14F resFwd
  rw [f30_eq (by decide) (by decide) (by omega) (by omega) (by omega) (by omega)]
  simp only [Option.bind_some]
  by_cases e : er8 65536 x l = 0
  · obtain ⟨h1, h2⟩ := er8_zero e
    obtain ⟨k1, k2, k3⟩ := erS_zero h1
    have hn := nl_sum k1
    have hf := fold_in (N := N) (by omega) false (B := 65536) (C := 1048576) (by decide) (by decide) (by decide) k1 k3 h2
    have hb := f34l0_eq (N := N) (by omega) k1 (by omega) ((), ()) l N 0 [] (flds false N 0 (nl l) x) rfl (by omega) (by omega) (by simp) hf (by rw [flds_len]; omega) (by rw [flds_len]; omega)
    rw [show ((0 : Nat) : Int) = 0 from rfl, List.nil_append] at hb
    simp only [e, bne_self_eq_false, cond_false, if_true]
    rw [f31_eq N (by omega)]
    simp only [Option.bind_some]
    rw [f32v1_eq (by omega) k1 (by omega) k3 (sqR_of (B := 65536) (by decide) (by decide) h2)]
    simp only [Option.bind_some, f34F]
    rw [hb]
    rfl
  · have e' : (er8 65536 x l != 0) = true := by simpa using e
    simp only [e, e', cond_true, if_false]
theorem blk_R {N : Nat} (hN : 100 ≤ N) {x l : List Int} (k1 : AllN l) (h2 : x.all (inR 2097152) = true) : SqR 18446744073709551616 0 (blk (inv N) (nl l) x) := fun j _ =>
  Int.le_trans (blk_inv_sq hN (S := 4398046511104) (by decide) (nl l) x (nl_all k1) (p07.sqL_of (B := 2097152) (by decide) h2) j) (by decide +kernel)
theorem f38_eq {N : Nat} (hN : 200000 ≤ N) {x l : List Int} (hx : x.length ≤ 100000) (hl : l.length ≤ 600) (k1 : AllN l) (k3 : (x.length : Int) = l.sum) (h2 : x.all (inR 2097152) = true) : f38F N x l = some ((invL N l x, ()), ((), ())) := by
  have hn := nl_sum k1
  have hb := f34v1l0_eq (N := N) (by omega) k1 (by omega) ((), ()) l N 0 [] x rfl (by omega) (by omega) (by simp) (p07.inR_mono (by decide) h2) (by omega) (by omega)
  rw [show ((0 : Nat) : Int) = 0 from rfl, List.nil_append] at hb
  have hbl := blk_len (inv N) (p07.inv_len N) (nl l) x (nl_all k1)
  unfold f38F f34v1F invL
  rw [hb]
  simp only [Option.bind_some]
  rw [f32v3_eq (by omega) k1 (by omega) (by omega) (blk_R (by omega) k1 h2)]
  rfl
theorem f17_eq {N : Nat} (hN : 200000 ≤ N) {x l : List Int} (hx : x.length ≤ 1200) (hl : l.length ≤ 600) : f17F N x l = some (resInv N x l) := by
  unfold f17F resInv
  rw [f30_eq (by decide) (by decide) (by omega) (by omega) (by omega) (by omega)]
  simp only [Option.bind_some]
  by_cases e : er8 2097152 x l = 0
  · obtain ⟨h1, h2⟩ := er8_zero e
    obtain ⟨k1, k2, k3⟩ := erS_zero h1
    simp only [e, bne_self_eq_false, cond_false, if_true]
    rw [f38_eq hN (by omega) hl k1 k3 h2]
    rfl
  · have e' : (er8 2097152 x l != 0) = true := by simpa using e
    simp only [e, e', cond_true, if_false]
end Go.Sh.c08

namespace Go.Sh.c08
open p06 (Bd inR inR_iff isQ isQ_iff ofN)
open p07 (tab tab_len tab_getD tab_ext tab_succ eq_tab tw bk gS fwd inv lv planOf itS)

abbrev Pl := (List (Int × (Int × (Int × Unit)))) × (Int × ((List (Int × (Int × (Int × Unit)))) × (Int × (Int × (Int × Unit)))))
end Go.Sh.c08

namespace Go.Sh.c08
open p06 (Bd inR inR_iff isQ isQ_iff ofN)
open p07 (tab tab_len tab_getD tab_ext tab_succ eq_tab tw bk gS fwd inv lv planOf itS)

theorem blk_inv {N : Nat} : ∀ (l : List Nat) (x : List Int), AllM l → x.length = l.sum → blk (inv N) l (blk (fwd N) l x) = x
  | [], x, _, h => (List.eq_nil_of_length_eq_zero h).symm
  | n :: r, x, hA, h => by
    simp only [List.sum_cons] at h
    have h2 := (lv_ok hA.head).2
    have hfl := p07.fwd_len N (lv n) (x.take n)
    have htl : (x.take n).length = 2 ^ (lv n + 1) := by rw [List.length_take, ← h2]; omega
    have e1 : (fwd N (lv n) (x.take n) ++ blk (fwd N) r (x.drop n)).take n = fwd N (lv n) (x.take n) := by
      rw [List.take_append_of_le_length (by omega), List.take_of_length_le (by omega)]
    have e2 : (fwd N (lv n) (x.take n) ++ blk (fwd N) r (x.drop n)).drop n = blk (fwd N) r (x.drop n) := by
      rw [List.drop_append_of_le_length (by omega), List.drop_eq_nil_of_le (by omega), List.nil_append]
    simp only [blk]
    rw [e1, e2, p07.inv_fwd N (lv n) htl, blk_inv r (x.drop n) hA.tail (by rw [List.length_drop]; omega), List.take_append_drop]
theorem lim20 {l : Nat} (hl : l ≤ 6) : p07.stgs (2 * l + 2) 8 1057300 ≤ 2097152 := by
  have h := p07.stgs_le (C := 8) (B := 1057300) (by decide) (by decide) (14 - (2 * l + 2)) (2 * l + 2)
  rw [show 2 * l + 2 + (14 - (2 * l + 2)) = 14 by omega] at h
  exact Int.le_trans h (by decide +kernel)
theorem blk_in {N : Nat} (hN : 100 ≤ N) : ∀ (l : List Nat) (x : List Int), AllM l → x.length = l.sum → p07.SqL (gS 4294967296) x → (blk (fwd N) l x).all (inR 2097152) = true
  | [], _, _, _, _ => rfl
  | n :: r, x, hA, h, hs => by
    simp only [List.sum_cons] at h
    obtain ⟨h1, h2⟩ := lv_ok hA.head
    have hn := hA.head
    have htl : (x.take n).length = 2 ^ (lv n + 1) := by rw [List.length_take, ← h2]; omega
    have hE : p07.enL (x.take n) ≤ (n : Int) * gS 4294967296 := by
      rw [p07.enL_of (n := n) (by rw [htl, ← h2])]
      exact p07.sT_bound fun k _ => sqL_take (by decide) hs n k
    have hg : gS 4294967296 = 8733100396 := by decide
    have h6 : 2 ^ lv n ≤ 2 ^ 6 := Nat.pow_le_pow_right (by omega) h1
    have he := p07.fwd_en hN h1 htl (B := 1057300) (C := 8) (by decide) (by decide) (by omega) (by rw [hg] at hE; omega)
    have hp := p07.stgs_pos (C := 8) (B := 1057300) (by decide) (by decide) (2 * lv n + 2)
    have ha := p07.all_of (B := 2097152) (by decide) (Int.le_trans he (p07.sq_mono (by omega) (lim20 h1)))
    have hb := blk_in hN r (x.drop n) hA.tail (by rw [List.length_drop]; omega) (sqL_drop hs n)
    simp only [blk, List.all_append, ha, hb, Bool.and_self]
theorem fold_sqL {N : Nat} (hN : 100 ≤ N) {x l : List Int} (k1 : AllN l) (k3 : (x.length : Int) = l.sum) (h2 : x.all (inR 65536) = true) : p07.SqL (gS 4294967296) (flds false N 0 (nl l) x) := fun j => by
  have hn := nl_sum k1
  have hs := p07.sqL_of (B := 65536) (by decide) h2
  exact flds_sq hN false (S := 4294967296) (nl l) 0 0 x (nl_all k1) (fun _ _ _ => Nat.zero_le _) (fun j _ => hs j) (fun j => Int.le_trans (hs j) (by decide)) (by omega) j
theorem fwd_undone {N : Nat} (hN : 100 ≤ N) {x l : List Int} (h : er8 65536 x l = 0) : er8 2097152 (blk (fwd N) (nl l) (flds false N 0 (nl l) x)) l = 0 ∧ invL N l (blk (fwd N) (nl l) (flds false N 0 (nl l) x)) = x := by
  obtain ⟨h1, h2⟩ := er8_zero h
  obtain ⟨k1, k2, k3⟩ := erS_zero h1
  have hn := nl_sum k1
  have hfl : (flds false N 0 (nl l) x).length = (nl l).sum := by rw [flds_len]; omega
  have hbl := blk_len (fwd N) (p07.fwd_len N) (nl l) (flds false N 0 (nl l) x) (nl_all k1)
  refine ⟨?_, ?_⟩
  · have hin := blk_in hN (nl l) _ (nl_all k1) hfl (fold_sqL hN k1 k3 h2)
    have he : erS (blk (fwd N) (nl l) (flds false N 0 (nl l) x)) l = 0 := by
      unfold erS at h1 ⊢
      rw [hbl]
      by_cases hl : lay l = true
      · rw [if_pos hl, if_pos hn]
      · rw [if_neg hl] at h1; omega
    unfold er8
    rw [he, if_pos rfl, if_pos hin]
  · unfold invL
    rw [blk_inv (nl l) _ (nl_all k1) hfl]
    exact flds_inv N (nl l) 0 x (by omega)
theorem fold_undone {N : Nat} (hN : 100 ≤ N) {x l : List Int} (h : er8 65536 x l = 0) : er8 33554432 (flds false N 0 (nl l) x) l = 0 ∧ flds true N 0 (nl l) (flds false N 0 (nl l) x) = x := by
  obtain ⟨h1, h2⟩ := er8_zero h
  obtain ⟨k1, k2, k3⟩ := erS_zero h1
  have hn := nl_sum k1
  refine ⟨?_, flds_inv N (nl l) 0 x (by omega)⟩
  have hin := fold_in (N := N) hN false (B := 65536) (C := 33554432) (by decide) (by decide) (by decide) k1 k3 h2
  have he : erS (flds false N 0 (nl l) x) l = 0 := by
    unfold erS at h1 ⊢
    rw [flds_len]; exact h1
  unfold er8
  rw [he, if_pos rfl, if_pos hin]
end Go.Sh.c08

namespace Go.Sh.c08
open p06 (Bd inR inR_iff isQ isQ_iff ofN)
open p07 (tab tab_len tab_getD tab_ext tab_succ eq_tab tw bk gS fwd inv lv planOf itS)

def sub (l : List Int) (a b : Nat) : List Int := (l.take b).drop a
theorem sub_all {l : List Int} (h : AllN l) (a b : Nat) : AllN (sub l a b) := (h.take b).drop a
theorem sub_len (l : List Int) (a b : Nat) : (sub l a b).length ≤ l.length := by unfold sub; rw [List.length_drop, List.length_take]; omega
def sm (l : List Int) (a b : Nat) : Nat := (nl (sub l a b)).sum
theorem sm_eq {l : List Int} (h : AllN l) (a b : Nat) : (sub l a b).sum = (sm l a b : Int) := (nl_sum (sub_all h a b)).symm
theorem sm_add {l : List Int} {a b c : Nat} (h1 : a ≤ b) (h2 : b ≤ c) : sm l a c = sm l a b + sm l b c := by
  have e : sub l a c = sub l a b ++ sub l b c := by
    unfold sub
    have e1 : l.take c = l.take b ++ (l.take c).drop b := by
      have := (List.take_append_drop b (l.take c)).symm
      rwa [List.take_take, Nat.min_eq_left h2] at this
    rcases Nat.lt_or_ge (l.take b).length a with hh | hh
    · have hb : (l.take b).length = l.length ∨ (l.take b).length = b := by rw [List.length_take]; omega
      have hl : l.length ≤ b := by rw [List.length_take] at hh; omega
      rw [List.take_of_length_le (by omega), List.take_of_length_le hl, List.drop_eq_nil_of_le hl, List.append_nil]
    · conv => lhs; rw [e1]
      rw [List.drop_append_of_le_length hh]
  unfold sm
  rw [e]
  unfold nl
  rw [List.map_append, List.sum_append]
def lo (f : Nat) : Nat := f - 1
def hi (t n : Nat) : Nat := min (t + 1) n
theorem f23_ok {N : Nat} (hN : 200000 ≤ N) {c l : List Int} (hx : c.length ≤ 1200) (hl : l.length ≤ 600) (hlay : lay l = true) (k3 : (c.length : Int) = l.sum) {f t : Nat} (hft : f ≤ t) (ht : t ≤ l.length) :
    f23F N c l (f : Int) (t : Int) = some (if ((c.take (sm l 0 (lo f) + sm l (lo f) (hi t l.length))).drop (sm l 0 (lo f))).all (inR 2097152) = true then
      ((cutAt (sm l (lo f) f) (sm l (lo f) f + sm l f t - sm l (lo f) f) (invL N (sub l (lo f) (hi t l.length)) ((c.take (sm l 0 (lo f) + sm l (lo f) (hi t l.length))).drop (sm l 0 (lo f)))), ()), ((), (0, ())))
      else (([], ()), ((), (6, ())))) := by
  obtain ⟨k1, k2⟩ := lay_all hlay
  have hsum := nl_sum k1
  have hsub0 : sub l 0 l.length = l := by unfold sub; rw [List.take_length, List.drop_zero]
  have htot : sm l 0 l.length = c.length := by unfold sm; rw [hsub0]; omega
  have hlo : lo f ≤ f := by unfold lo; omega
  have hhi1 : hi t l.length ≤ l.length := by unfold hi; omega
  have hhi2 : t ≤ hi t l.length := by unfold hi; omega
  have a1 := sm_add (l := l) (a := 0) (b := lo f) (c := hi t l.length) (by omega) (by omega)
  have a2 := sm_add (l := l) (a := 0) (b := hi t l.length) (c := l.length) (by omega) (by omega)
  have a3 := sm_add (l := l) (a := lo f) (b := f) (c := hi t l.length) (by omega) (by omega)
  have a4 := sm_add (l := l) (a := f) (b := t) (c := hi t l.length) (by omega) (by omega)
  have m1 : (if (0 : Int) > IntKind.i64.wrap ((f : Int) - 1) then 0 else IntKind.i64.wrap ((f : Int) - 1)) = ((lo f : Nat) : Int) := by
    rw [w64 (by omega) (by omega)]; unfold lo; split <;> omega
  have m2 : (if ((l.length : Nat) : Int) < IntKind.i64.wrap ((t : Int) + 1) then ((l.length : Nat) : Int) else IntKind.i64.wrap ((t : Int) + 1)) = ((hi t l.length : Nat) : Int) := by
    rw [w64 (by omega) (by omega)]; unfold hi; split <;> omega
  have s44 : ∀ a b, f44F N (sub l a b) = some ((), ((sm l a b : Int), ())) := fun a b => by
    have := sub_len l a b
    rw [f44_eq (sub_all k1 a b) (by omega) (by omega), sm_eq k1]
  have s0 : f44F N (l.take (lo f)) = some ((), ((sm l 0 (lo f) : Int), ())) := s44 0 (lo f)
  have e0 : f44F N l = some ((), ((c.length : Int), ())) := by rw [f44_eq k1 (by omega) (by omega), k3]
  have w1 : IntKind.i64.wrap ((sm l 0 (lo f) : Int) + (sm l (lo f) (hi t l.length) : Int)) = ((sm l 0 (lo f) + sm l (lo f) (hi t l.length) : Nat) : Int) := by rw [w64 (by omega) (by omega)]; rfl
  have w2 : IntKind.i64.wrap ((sm l (lo f) f : Int) + (sm l f t : Int)) = ((sm l (lo f) f + sm l f t : Nat) : Int) := by rw [w64 (by omega) (by omega)]; rfl
  obtain ⟨x, hxx⟩ : ∃ x, (c.take (sm l 0 (lo f) + sm l (lo f) (hi t l.length))).drop (sm l 0 (lo f)) = x := ⟨_, rfl⟩
  have hxl : x.length = sm l (lo f) (hi t l.length) := by rw [← hxx, List.length_drop, List.length_take]; omega
  have hpl := sub_len l (lo f) (hi t l.length)
  have hk3 : (x.length : Int) = (sub l (lo f) (hi t l.length)).sum := by rw [sm_eq k1, hxl]
  have hplay : lay (sub l (lo f) (hi t l.length)) = true := by
    unfold lay
    rw [Bool.and_eq_true]
    exact ⟨List.all_eq_true.2 fun n hn => isN_iff.2 (sub_all k1 _ _ n hn), decide_eq_true (by omega)⟩
  have h30 : f30F N x (sub l (lo f) (hi t l.length)) 2097152 = some ((), (if x.all (inR 2097152) = true then 0 else 6, ())) := by
    rw [f30_eq (by decide) (by decide) (by omega) (by omega) (by omega) (by omega)]
    unfold er8 erS
    rw [if_pos hplay, if_pos hk3, if_pos rfl]
  rw [hxx]
  unfold f23F
  rw [f43_eq (by omega) (by omega), hlay]
  simp only [Option.bind_some, Bool.not_true, cond_false, e0, bne_self_eq_false, show ¬ ((f : Int) < 0) by omega, show ¬ ((t : Int) < (f : Int)) by omega, show ¬ ((l.length : Int) < (t : Int)) by omega, decide_false, m1, m2]
  simp only [show (0 : Int) ≤ ((lo f : Nat) : Int) by omega, show ((lo f : Nat) : Int) ≤ ((hi t l.length : Nat) : Int) by omega, Int.le_refl, show ((hi t l.length : Nat) : Int) ≤ (l.length : Int) by omega, show ((lo f : Nat) : Int) ≤ (l.length : Int) by omega, decide_true, Bool.and_self, cond_true, Int.toNat_natCast, s0, Option.bind_some]
  rw [show (l.take (hi t l.length)).drop (lo f) = sub l (lo f) (hi t l.length) from rfl, s44]
  simp only [Option.bind_some, w1, show (0 : Int) ≤ ((sm l 0 (lo f) : Nat) : Int) by omega, show ((sm l 0 (lo f) : Nat) : Int) ≤ ((sm l 0 (lo f) + sm l (lo f) (hi t l.length) : Nat) : Int) by omega, show ((sm l 0 (lo f) + sm l (lo f) (hi t l.length) : Nat) : Int) ≤ (c.length : Int) by omega, decide_true, Bool.and_self, cond_true, Int.toNat_natCast, hxx, h30]
  by_cases hin : x.all (inR 2097152) = true
  · have h38 := f38_eq hN (x := x) (l := sub l (lo f) (hi t l.length)) (by omega) (by omega) (sub_all k1 _ _) hk3 hin
    have hil : (invL N (sub l (lo f) (hi t l.length)) x).length = x.length := by
      unfold invL
      rw [flds_len, blk_len (inv N) (p07.inv_len N) _ _ (nl_all (sub_all k1 _ _)), hxl]; rfl
    rw [if_pos hin, if_pos hin, h38]
    simp only [bne_self_eq_false, cond_false, Option.bind_some, show ((lo f : Nat) : Int) ≤ (f : Int) by omega, show (f : Int) ≤ (l.length : Int) by omega, show (0 : Int) ≤ (f : Int) by omega, show (f : Int) ≤ (t : Int) by omega, show (t : Int) ≤ (l.length : Int) by omega, decide_true, Bool.and_self, cond_true, show (0 : Int) ≤ ((lo f : Nat) : Int) by omega]
    rw [show (l.take f).drop (lo f) = sub l (lo f) f from rfl, s44]
    simp only [Option.bind_some]
    rw [show (l.take t).drop f = sub l f t from rfl, s44]
    simp only [Option.bind_some, w2, hil, show (0 : Int) ≤ ((sm l (lo f) f : Nat) : Int) by omega, show ((sm l (lo f) f : Nat) : Int) ≤ ((sm l (lo f) f + sm l f t : Nat) : Int) by omega, show ((sm l (lo f) f + sm l f t : Nat) : Int) ≤ (x.length : Int) by omega, decide_true, Bool.and_self, cond_true, Int.toNat_natCast]
    have hcl : (cutAt (sm l (lo f) f) (sm l (lo f) f + sm l f t - sm l (lo f) f) (invL N (sub l (lo f) (hi t l.length)) x)).length ≤ 1000000 := by
      unfold cutAt
      split
      · rw [List.length_take]; omega
      · rw [List.length_take, List.length_drop]; omega
    rw [f31_eq N hcl]
    rfl
  · rw [if_neg hin, if_neg hin]; rfl
end Go.Sh.c08

namespace Go.Sh.c08
open p06 (Bd inR inR_iff isQ isQ_iff ofN)
open p07 (tab tab_len tab_getD tab_ext tab_succ eq_tab tw bk gS fwd inv lv planOf itS)

theorem ints {N : Nat} (hN : 10000 ≤ N) {a b : List Int} (h : a = b) (hl : a.length ≤ 5000) : f16F N a b = some ((), (true, ())) := by
  subst h
  rw [p06.f20_eq _ (by omega) (by omega)]; simp
theorem own_ex {N : Nat} (hN : 10000 ≤ N) : f25F N [128, 16] 0 = some ((), (0, (120, (0, ())))) := by
  have e2 : f44F N [] = some ((), (0, ())) := f44_eq (l := []) (fun n hn => by simp at hn) (by simp) (by simp; omega)
  unfold f25F
  rw [f43_eq (by simp) (by simp; omega), show lay [128, 16] = true by decide]
  simp only [Option.bind_some, Bool.not_true, cond_false]
  rw [show (([128, 16] : List Int).take (Int.toNat 0)) = [] from rfl, e2]
  simp only [Option.bind_some]
  rfl
theorem awake {N : Nat} (hN : 200000 ≤ N) : f13F N = some ((), (true, ())) := by
  obtain ⟨X, hX⟩ : ∃ X : List Int, X = (List.set (List.set (List.replicate 32 (0 : Int)) 15 1000) 16 1000) := ⟨_, rfl⟩
  have hXl : X.length = 32 := by rw [hX]; simp
  have he : er8 65536 X [16, 16] = 0 := by rw [hX]; decide +kernel
  obtain ⟨u1, u2⟩ := fwd_undone (N := N) (by omega) he
  obtain ⟨v1, v2⟩ := fold_undone (N := N) (by omega) he
  have hA : AllN [16, 16] := fun n hn => by simp at hn; omega
  have hFl : (flds false N 0 (nl [16, 16]) X).length = 32 := by rw [flds_len, hXl]
  obtain ⟨C, hC⟩ : ∃ C, C = blk (fwd N) (nl [16, 16]) (flds false N 0 (nl [16, 16]) X) := ⟨_, rfl⟩
  have hCl : C.length = 32 := by rw [hC, blk_len (fwd N) (p07.fwd_len N) _ _ (nl_all hA)]; rfl
  rw [← hC] at u1 u2
  have c1 : f19F N X [16, 16] = some ((flds false N 0 (nl [16, 16]) X, ()), ((), (0, ()))) := by
    rw [f19_eq hN (by omega) (by simp)]; unfold resFold; rw [he, if_pos rfl]
  have c2 : f21F N (flds false N 0 (nl [16, 16]) X) [16, 16] = some ((X, ()), ((), (0, ()))) := by
    rw [f21_eq hN (by omega) (by simp)]; unfold resFold; rw [v1, if_pos rfl, v2]
  have c4 : f14F N X [16, 16] = some ((C, ()), ((), (0, ()))) := by
    rw [f14_eq hN (by omega) (by simp)]; unfold resFwd; rw [he, if_pos rfl, ← hC]
  have c5 : f17F N C [16, 16] = some ((X, ()), ((), (0, ()))) := by
    rw [f17_eq hN (by omega) (by simp)]; unfold resInv; rw [u1, if_pos rfl, u2]
  have hc2 := (er8_zero u1).2
  have c6 : f23F N C [16, 16] 1 2 = some ((cutAt 16 16 X, ()), ((), (0, ()))) := by
    have h := f23_ok hN (c := C) (l := [16, 16]) (by omega) (by simp) (by decide) (by rw [hCl]; rfl) (f := 1) (t := 2) (by omega) (by simp)
    rw [show sm [16, 16] 0 (lo 1) = 0 by decide, show sm [16, 16] (lo 1) (hi 2 ([16, 16] : List Int).length) = 32 by decide, show sm [16, 16] (lo 1) 1 = 16 by decide, show sm [16, 16] 1 2 = 16 by decide, show sub [16, 16] (lo 1) (hi 2 ([16, 16] : List Int).length) = [16, 16] by decide,
      List.drop_zero, List.take_of_length_le (by omega), if_pos hc2, u2] at h
    exact h
  unfold f13F
  rw [← hX]
  simp only [List.length_replicate, List.length_set, show (true && decide ((15 : Int) < ((32 : Nat) : Int))) = true by decide, show (true && decide ((16 : Int) < ((32 : Nat) : Int))) = true by decide, cond_true, c1, c2, own_ex (show 10000 ≤ N by omega), c4, c5, c6, Option.bind_some, beq_self_eq_true, hFl, show (((32 : Nat) : Int) == 32) = true by decide, show ((120 : Int) == 120) = true by decide, ints (show 10000 ≤ N by omega) (a := X) rfl (by omega), hXl,
    show (((true && decide ((16 : Int) ≤ ((32 : Nat) : Int))) && decide (((32 : Nat) : Int) ≤ ((32 : Nat) : Int))) && true) = true by decide]
  have hcut : (cutAt 16 (32 - 16) X).length ≤ 5000 := by unfold cutAt; rw [List.length_take]; omega
  have := ints (N := N) (by omega) (a := cutAt 16 16 X) (b := cutAt 16 (32 - 16) X) rfl hcut
  exact (congrArg (fun z => Option.bind z _) this).trans rfl
end Go.Sh.c08

namespace Go.Sh.c08
open p06 (Bd inR inR_iff isQ isQ_iff ofN)
open p07 (tab tab_len tab_getD tab_ext tab_succ eq_tab tw bk gS fwd inv lv planOf itS)

end Go.Sh.c08

namespace Go.Sh.c08
open p06 (Bd inR inR_iff isQ isQ_iff ofN)
open p07 (tab tab_len tab_getD tab_ext tab_succ eq_tab tw bk gS fwd inv lv planOf itS)

def badR (l : List Int) (f t : Int) : Prop := f < 0 ∨ t < f ∨ (l.length : Int) < t
theorem same (N n : Nat) {a b c d e : List Int} (ha : f16F N a a = some ((), (true, ()))) (hb : f16F N b b = some ((), (true, ()))) (hc : f16F N c c = some ((), (true, ()))) (hd : f16F N d d = some ((), (true, ()))) (he : f16F N e e = some ((), (true, ()))) :
    f11l4 N (n + 6) [a, b, c, d, e] [a, b, c, d, e] 5 0 = some (.inl ((), ())) := by
  have w1 : IntKind.i64.wrap 1 = 1 := by decide
  have w2 : IntKind.i64.wrap 2 = 2 := by decide
  have w3 : IntKind.i64.wrap 3 = 3 := by decide
  have w4 : IntKind.i64.wrap 4 = 4 := by decide
  have w5 : IntKind.i64.wrap 5 = 5 := by decide
  simp [f11l4, w1, w2, w3, w4, w5, ha, hb, hc, hd, he]
end Go.Sh.c08

namespace Go.Sh.c08
open p06 (Bd inR inR_iff isQ isQ_iff ofN)
open p07 (tab tab_len tab_getD tab_ext tab_succ eq_tab tw bk gS fwd inv lv planOf itS)

theorem flds_skip (bw : Bool) (N : Nat) : ∀ (r : List Nat) (a p j : Nat) (x : List Int), (∀ b s, r = b :: s → j + min a b / 2 < p + a) → p + (a :: r).sum ≤ x.length → (flds bw N p (a :: r) x).getD j 0 = x.getD j 0
  | [], _, _, _, _, _, _ => rfl
  | b :: s, a, p, j, x, h, hx => by
    have h1 := h b s rfl
    simp only [List.sum_cons] at hx
    have ha : min a b ≤ a := Nat.min_le_left a b
    have hb : min a b ≤ b := Nat.min_le_right a b
    show (flds bw N (p + a) (b :: s) (lapV bw N (p + a) (min a b) x)).getD j 0 = _
    generalize min a b = c at *
    rw [flds_skip bw N s b (p + a) j _ (fun d s' _ => by have := Nat.min_le_left b d; omega) (by rw [lapV_len]; simp only [List.sum_cons]; omega)]
    rw [lapV_at bw N (by omega), lapG_far bw N x (.inl (by omega))]
theorem flds_past (bw : Bool) (N : Nat) : ∀ (A : List Nat) (p b j : Nat) (x : List Int), (∀ a, A.getLast? = some a → p + A.sum + min a b / 2 ≤ j) → p + A.sum + b ≤ x.length → (flds bw N p (A ++ [b]) x).getD j 0 = x.getD j 0
  | [], _, _, _, _, _, _ => rfl
  | [a], p, b, j, x, h, hx => by
    have h1 := h a rfl
    simp only [List.sum_cons, List.sum_nil, Nat.add_zero] at hx h1
    have hb : min a b ≤ b := Nat.min_le_right a b
    show (lapV bw N (p + a) (min a b) x).getD j 0 = _
    generalize min a b = c at *
    rw [lapV_at bw N (by omega), lapG_far bw N x (.inr (by omega))]
  | a :: a' :: A, p, b, j, x, h, hx => by
    obtain ⟨e, he⟩ : ∃ e, (a' :: A).getLast? = some e := ⟨_, List.getLast?_eq_some_getLast (List.cons_ne_nil a' A)⟩
    have h1 := h e (by rw [List.getLast?_cons_cons]; exact he)
    simp only [List.sum_cons] at hx h1
    have hb : min a a' ≤ a' := Nat.min_le_right a a'
    show (flds bw N (p + a) ((a' :: A) ++ [b]) (lapV bw N (p + a) (min a a') x)).getD j 0 = _
    generalize min a a' = c at *
    rw [flds_past bw N (a' :: A) (p + a) b j _ (fun d hd => by
      rw [he] at hd; cases hd; simp only [List.sum_cons]; omega) (by rw [lapV_len]; simp only [List.sum_cons]; omega)]
    rw [lapV_at bw N (by omega), lapG_far bw N x (.inr (by omega))]
theorem flds_app (bw : Bool) (N : Nat) : ∀ (A : List Nat) (p b : Nat) (R : List Nat) (x : List Int), flds bw N p (A ++ b :: R) x = flds bw N (p + A.sum) (b :: R) (flds bw N p (A ++ [b]) x)
  | [], _, _, _, _ => rfl
  | [a], p, b, R, x => by
    show flds bw N (p + a) (b :: R) _ = flds bw N (p + (a + 0)) (b :: R) _
    rfl
  | a :: a' :: A, p, b, R, x => by
    show flds bw N (p + a) ((a' :: A) ++ b :: R) (lapV bw N (p + a) (min a a') x) = flds bw N _ _ (flds bw N (p + a) ((a' :: A) ++ [b]) (lapV bw N (p + a) (min a a') x))
    rw [flds_app bw N (a' :: A) (p + a) b R]
    simp only [List.sum_cons, Nat.add_assoc]
theorem flds_near (bw : Bool) (N : Nat) : ∀ (L : List Nat) (p s α : Nat) (x y : List Int), (∀ a r, L = a :: r → α ≤ p + a / 2) → s + p + L.sum ≤ x.length → p + L.sum ≤ y.length → (∀ j, α ≤ j → j < p + L.sum → x.getD (s + j) 0 = y.getD j 0) → ∀ j, α ≤ j → j < p + L.sum → (flds bw N (s + p) L x).getD (s + j) 0 = (flds bw N p L y).getD j 0
  | [], _, _, _, _, _, _, _, _, h => h
  | [_], _, _, _, _, _, _, _, _, h => h
  | a :: b :: r, p, s, α, x, y, hα, hx, hy, h => by
    intro j hj1 hj2
    have h1 := hα a (b :: r) rfl
    simp only [List.sum_cons] at hx hy h hj2
    have ha : min a b ≤ a := Nat.min_le_left a b
    have hb : min a b ≤ b := Nat.min_le_right a b
    show (flds bw N (s + p + a) (b :: r) (lapV bw N (s + p + a) (min a b) x)).getD (s + j) 0 = (flds bw N (p + a) (b :: r) (lapV bw N (p + a) (min a b) y)).getD j 0
    generalize min a b = c at *
    rw [Nat.add_assoc s p a]
    refine flds_near bw N (b :: r) (p + a) s α _ _ (fun a' r' e => by cases e; omega) (by rw [lapV_len]; simp only [List.sum_cons]; omega) (by rw [lapV_len]; simp only [List.sum_cons]; omega) (fun j hj1 hj2 => ?_) j hj1 (by simp only [List.sum_cons]; omega)
    simp only [List.sum_cons] at hj2
    rw [lapV_at bw N (by omega), lapV_at bw N (by omega)]
    unfold lapG
    by_cases c1 : p + a ≤ j + c / 2 ∧ j < p + a
    · rw [if_pos c1, if_pos (by omega), h j (by omega) (by omega), show 2 * (s + (p + a)) - 1 - (s + j) = s + (2 * (p + a) - 1 - j) by omega, h (2 * (p + a) - 1 - j) (by omega) (by omega), show s + (p + a) - 1 - (s + j) = p + a - 1 - j by omega]
    · rw [if_neg c1, if_neg (by omega)]
      by_cases c2 : p + a ≤ j ∧ j < p + a + c / 2
      · rw [if_pos c2, if_pos (by omega), h j (by omega) (by omega), show 2 * (s + (p + a)) - 1 - (s + j) = s + (2 * (p + a) - 1 - j) by omega, h (2 * (p + a) - 1 - j) (by omega) (by omega), show s + j - (s + (p + a)) = j - (p + a) by omega]
      · rw [if_neg c2, if_neg (by omega), h j (by omega) (by omega)]
theorem flds_mid (bw : Bool) (N : Nat) {A P Q R B : List Nat} {z y : List Int} (hP : A = [] ∨ ∃ a, P = [a]) (hR : B = [] ∨ ∃ e, R = [e]) (hz : A.sum + (P.sum + (Q.sum + (R.sum + B.sum))) ≤ z.length) (hy : P.sum + (Q.sum + R.sum) ≤ y.length)
    (h : ∀ j, j < P.sum + (Q.sum + R.sum) → z.getD (A.sum + j) 0 = y.getD j 0) {j : Nat} (h1 : P.sum ≤ j) (h2 : j < P.sum + Q.sum) :
    (flds bw N 0 (A ++ (P ++ (Q ++ (R ++ B)))) z).getD (A.sum + j) 0 = (flds bw N 0 (P ++ (Q ++ R)) y).getD j 0 := by
  obtain ⟨q, Q', hQ⟩ : ∃ q Q', P ++ Q = q :: Q' := by
    cases P with
    | nil =>
      cases Q with
      | nil => simp at h1 h2
      | cons q Q => exact ⟨q, Q, rfl⟩
    | cons q P => exact ⟨q, P ++ Q, rfl⟩
  have hQs : P.sum + Q.sum = q + Q'.sum := by rw [← List.sum_append, hQ, List.sum_cons]
  have e1 : P ++ (Q ++ (R ++ B)) = q :: (Q' ++ (R ++ B)) := by rw [← List.append_assoc, hQ, List.cons_append]
  have e2 : P ++ (Q ++ R) = q :: (Q' ++ R) := by rw [← List.append_assoc, hQ, List.cons_append]
  rw [e1, e2, flds_app, Nat.zero_add]
  have hw1 : ∀ i, (A ≠ [] → q / 2 ≤ i) → (flds bw N 0 (A ++ [q]) z).getD (A.sum + i) 0 = z.getD (A.sum + i) 0 := fun i hi => flds_past bw N A 0 q _ z (fun a ha => by
    have := Nat.min_le_right a q
    have : A ≠ [] := by intro e; rw [e] at ha; simp at ha
    have := hi this
    omega) (by omega)
  have hwl := flds_len bw N (A ++ [q]) 0 z
  obtain ⟨α, hα1, hα2, hα3⟩ : ∃ α, (A ≠ [] → q / 2 ≤ α) ∧ α ≤ q / 2 ∧ α ≤ j := by
    rcases hP with hA | ⟨a, ha⟩
    · exact ⟨0, fun h => absurd hA h, by omega, by omega⟩
    · rw [ha] at hQ h1
      injection hQ with hq _
      simp at h1
      exact ⟨q / 2, fun _ => by omega, by omega, by omega⟩
  have hnear := flds_near bw N (q :: (Q' ++ R)) 0 A.sum α (flds bw N 0 (A ++ [q]) z) y (fun a r e => by cases e; omega) (by rw [hwl]; simp only [List.sum_cons, List.sum_append]; omega) (by simp only [List.sum_cons, List.sum_append]; omega)
    (fun i hi1 hi2 => by
      simp only [List.sum_cons, List.sum_append] at hi2
      rw [hw1 i (fun hA => by have := hα1 hA; omega), h i (by omega)]) j hα3 (by simp only [List.sum_cons, List.sum_append]; omega)
  rw [Nat.add_zero] at hnear
  rw [← hnear]
  rcases hR with hB | ⟨e, he⟩
  · rw [hB, List.append_nil]
  · rw [he] at hz ⊢
    simp only [List.sum_cons, List.sum_nil, Nat.add_zero] at hz
    rw [show q :: (Q' ++ ([e] ++ B)) = (q :: Q') ++ e :: B by simp, show q :: (Q' ++ [e]) = (q :: Q') ++ [e] by simp, flds_app]
    refine flds_skip bw N B e _ _ _ (fun b s _ => ?_) ?_
    · have := Nat.min_le_left e b
      simp only [List.sum_cons]
      omega
    · rw [flds_len, hwl]
      simp only [List.sum_cons]
      omega
/-! ### Blocks -/
theorem blk_app (f : Nat → List Int → List Int) : ∀ (A B : List Nat) (x : List Int), blk f (A ++ B) x = blk f A x ++ blk f B (x.drop A.sum)
  | [], _, _ => rfl
  | n :: A, B, x => by
    show f (lv n) (x.take n) ++ blk f (A ++ B) (x.drop n) = (f (lv n) (x.take n) ++ blk f A (x.drop n)) ++ _
    rw [blk_app f A B, List.append_assoc, List.drop_drop, List.sum_cons]
theorem blk_take (f : Nat → List Int → List Int) : ∀ (A : List Nat) (x : List Int) (k : Nat), A.sum ≤ k → blk f A (x.take k) = blk f A x
  | [], _, _, _ => rfl
  | n :: A, x, k, h => by
    simp only [List.sum_cons] at h
    show f (lv n) ((x.take k).take n) ++ blk f A ((x.take k).drop n) = f (lv n) (x.take n) ++ blk f A (x.drop n)
    rw [List.take_take, Nat.min_eq_left (by omega), List.drop_take, blk_take f A _ _ (by omega)]
theorem blk_mid (f : Nat → List Int → List Int) (hf : ∀ l x, (f l x).length = 2 ^ (l + 1)) {A M B : List Nat} (hA : AllM A) (hM : AllM M) (x : List Int) {j : Nat} (hj : j < M.sum) : (blk f (A ++ (M ++ B)) x).getD (A.sum + j) 0 = (blk f M ((x.take (A.sum + M.sum)).drop A.sum)).getD j 0 := by
  rw [blk_app, blk_app, List.drop_take, Nat.add_sub_cancel_left, blk_take f M _ _ (Nat.le_refl _)]
  have h1 := blk_len f hf A x hA
  have h2 := blk_len f hf M (x.drop A.sum) hM
  simp only [List.getD_eq_getElem?_getD]
  rw [List.getElem?_append_right (by omega), h1, Nat.add_sub_cancel_left, List.getElem?_append_left (by omega)]
end Go.Sh.c08

namespace Go.Sh.c08
open p06 (Bd inR inR_iff isQ isQ_iff ofN)
open p07 (tab tab_len tab_getD tab_ext tab_succ eq_tab tw bk gS fwd inv lv planOf itS)

theorem sub_add (l : List Int) {a b c : Nat} (h1 : a ≤ b) (h2 : b ≤ c) : sub l a c = sub l a b ++ sub l b c := by
  unfold sub
  have e1 : l.take c = l.take b ++ (l.take c).drop b := by
    have := (List.take_append_drop b (l.take c)).symm
    rwa [List.take_take, Nat.min_eq_left h2] at this
  rcases Nat.lt_or_ge (l.take b).length a with hh | hh
  · have hl : l.length ≤ b := by rw [List.length_take] at hh; omega
    rw [List.take_of_length_le (by omega), List.take_of_length_le hl, List.drop_eq_nil_of_le hl, List.append_nil]
  · conv => lhs; rw [e1]
    rw [List.drop_append_of_le_length hh]
theorem sub_all0 (l : List Int) : sub l 0 l.length = l := by unfold sub; rw [List.take_length, List.drop_zero]
theorem nl_app (a b : List Int) : nl (a ++ b) = nl a ++ nl b := by unfold nl; exact List.map_append
theorem sub_nil (l : List Int) (a : Nat) : sub l a a = [] := by unfold sub; exact List.drop_eq_nil_of_le (by rw [List.length_take]; omega)
theorem sub_one (l : List Int) {a : Nat} (h : a < l.length) : ∃ e, sub l a (a + 1) = [e] := by
  have h1 : (sub l a (a + 1)).length = 1 := by unfold sub; rw [List.length_drop, List.length_take]; omega
  exact List.length_eq_one_iff.1 h1
theorem cut_len (a n : Nat) (x : List Int) : (cutAt a n x).length = min n (x.length - a) := by
  unfold cutAt
  split <;> simp
theorem cut_getD {a n j : Nat} (x : List Int) (h : j < n) : (cutAt a n x).getD j 0 = x.getD (a + j) 0 := by
  unfold cutAt
  simp only [List.getD_eq_getElem?_getD]
  split
  · rw [List.getElem?_take_of_lt h, Nat.zero_add]
  · rw [List.getElem?_take_of_lt h, List.getElem?_drop]
theorem invL_len {N : Nat} {l c : List Int} (hA : AllN l) : (invL N l c).length = (nl l).sum := by
  unfold invL
  rw [flds_len, blk_len (inv N) (p07.inv_len N) _ _ (nl_all hA)]
theorem inv_part {N : Nat} {c l : List Int} (hA : AllN l) {f t : Nat} (hft : f ≤ t) (ht : t ≤ l.length) :
    cutAt (sm l (lo f) f) (sm l (lo f) f + sm l f t - sm l (lo f) f) (invL N (sub l (lo f) (hi t l.length)) ((c.take (sm l 0 (lo f) + sm l (lo f) (hi t l.length))).drop (sm l 0 (lo f)))) = cutAt (sm l 0 f) (sm l 0 t - sm l 0 f) (invL N l c) := by
  have hlo : lo f ≤ f := by unfold lo; omega
  have hhi1 : hi t l.length ≤ l.length := by unfold hi; omega
  have hhi2 : t ≤ hi t l.length := by unfold hi; omega
  have a1 := sm_add (l := l) (a := 0) (b := lo f) (c := f) (by omega) (by omega)
  have a2 := sm_add (l := l) (a := 0) (b := f) (c := t) (by omega) (by omega)
  have a3 := sm_add (l := l) (a := lo f) (b := f) (c := hi t l.length) (by omega) (by omega)
  have a4 := sm_add (l := l) (a := f) (b := t) (c := hi t l.length) (by omega) (by omega)
  have a5 := sm_add (l := l) (a := 0) (b := t) (c := l.length) (by omega) (by omega)
  have a6 := sm_add (l := l) (a := t) (b := hi t l.length) (c := l.length) (by omega) (by omega)
  have e0 : l = sub l 0 (lo f) ++ (sub l (lo f) f ++ (sub l f t ++ (sub l t (hi t l.length) ++ sub l (hi t l.length) l.length))) := by
    rw [← sub_add l hhi2 hhi1, ← sub_add l hft ht, ← sub_add l hlo (by omega), ← sub_add l (by omega) (by omega), sub_all0]
  have e1 : sub l (lo f) (hi t l.length) = sub l (lo f) f ++ (sub l f t ++ sub l t (hi t l.length)) := by
    rw [← sub_add l hft hhi2, ← sub_add l hlo (by omega)]
  have n0 : nl l = nl (sub l 0 (lo f)) ++ (nl (sub l (lo f) f) ++ (nl (sub l f t) ++ (nl (sub l t (hi t l.length)) ++ nl (sub l (hi t l.length) l.length)))) := by
    rw [← nl_app, ← nl_app, ← nl_app, ← nl_app, ← e0]
  have n1 : nl (sub l (lo f) (hi t l.length)) = nl (sub l (lo f) f) ++ (nl (sub l f t) ++ nl (sub l t (hi t l.length))) := by
    rw [← nl_app, ← nl_app, ← e1]
  have hS : (nl l).sum = sm l 0 l.length := by unfold sm; rw [sub_all0]
  have l1 := invL_len (N := N) (c := c) hA
  have l2 := invL_len (N := N) (c := (c.take (sm l 0 (lo f) + sm l (lo f) (hi t l.length))).drop (sm l 0 (lo f))) (sub_all hA (lo f) (hi t l.length))
  rw [hS] at l1
  rw [show (nl (sub l (lo f) (hi t l.length))).sum = sm l (lo f) (hi t l.length) from rfl] at l2
  refine listEq_getD 0 (by rw [cut_len, cut_len, l1, l2]; omega) fun j hj => ?_
  rw [cut_len, l2] at hj
  rw [cut_getD _ (by omega), cut_getD _ (by omega)]
  have hP : nl (sub l 0 (lo f)) = [] ∨ ∃ a, nl (sub l (lo f) f) = [a] := by
    rcases Nat.eq_zero_or_pos f with h | h
    · refine .inl ?_
      rw [h]; unfold lo; rw [sub_nil]; rfl
    · obtain ⟨e, he⟩ := sub_one l (a := lo f) (by unfold lo; omega)
      refine .inr ⟨e.toNat, ?_⟩
      rw [show sub l (lo f) f = [e] by rw [← he]; congr 1; unfold lo; omega]; rfl
  have hR : nl (sub l (hi t l.length) l.length) = [] ∨ ∃ e, nl (sub l t (hi t l.length)) = [e] := by
    rcases Nat.lt_or_ge t l.length with h | h
    · obtain ⟨e, he⟩ := sub_one l (a := t) h
      refine .inr ⟨e.toNat, ?_⟩
      rw [show hi t l.length = t + 1 by unfold hi; omega, he]; rfl
    · refine .inl ?_
      rw [show hi t l.length = l.length by unfold hi; omega, sub_nil]; rfl
  have hm := fun i hii => blk_mid (inv N) (p07.inv_len N) (A := nl (sub l 0 (lo f))) (M := nl (sub l (lo f) (hi t l.length))) (B := nl (sub l (hi t l.length) l.length)) (nl_all (sub_all hA _ _)) (nl_all (sub_all hA _ _)) c (j := i) hii
  have n2 : nl (sub l 0 (lo f)) ++ (nl (sub l (lo f) (hi t l.length)) ++ nl (sub l (hi t l.length) l.length)) = nl l := by rw [n0, n1, List.append_assoc, List.append_assoc]
  rw [n2] at hm
  have hb1 := blk_len (inv N) (p07.inv_len N) (nl l) c (nl_all hA)
  have hb2 := blk_len (inv N) (p07.inv_len N) (nl (sub l (lo f) (hi t l.length))) ((c.take (sm l 0 (lo f) + sm l (lo f) (hi t l.length))).drop (sm l 0 (lo f))) (nl_all (sub_all hA _ _))
  unfold invL
  have hmid := flds_mid true N (A := nl (sub l 0 (lo f))) (P := nl (sub l (lo f) f)) (Q := nl (sub l f t)) (R := nl (sub l t (hi t l.length))) (B := nl (sub l (hi t l.length) l.length)) (z := blk (inv N) (nl l) c)
    (y := blk (inv N) (nl (sub l (lo f) (hi t l.length))) ((c.take (sm l 0 (lo f) + sm l (lo f) (hi t l.length))).drop (sm l 0 (lo f)))) hP hR
    (by rw [hb1, hS]; show sm l 0 (lo f) + (sm l (lo f) f + (sm l f t + (sm l t (hi t l.length) + sm l (hi t l.length) l.length))) ≤ _; omega)
    (by rw [hb2]; show sm l (lo f) f + (sm l f t + sm l t (hi t l.length)) ≤ sm l (lo f) (hi t l.length); omega)
    (fun i hi' => hm i (by show i < sm l (lo f) (hi t l.length); have : i < sm l (lo f) f + (sm l f t + sm l t (hi t l.length)) := hi'; omega))
    (j := sm l (lo f) f + j) (Nat.le_add_right _ _) (by show sm l (lo f) f + j < sm l (lo f) f + sm l f t; omega)
  rw [← n0, ← n1] at hmid
  rw [← hmid, a1, Nat.add_assoc]
  rfl
/-! ### The reference -/
def pad (a b : Nat) (c : List Int) : List Int := ((List.replicate c.length (0 : Int)).take a) ++ (((c.take b).drop a).take (min ((c.take b).drop a).length (b - a))) ++ ((List.replicate c.length (0 : Int)).drop (a + (min ((c.take b).drop a).length (b - a))))
end Go.Sh.c08

namespace Go.Sh.c08
open p06 (Bd inR inR_iff isQ isQ_iff ofN)
open p07 (tab tab_len tab_getD tab_ext tab_succ eq_tab tw bk gS fwd inv lv planOf itS)

theorem set_getD (v : List Int) (i j : Nat) (x : Int) (hi : i < v.length) : (v.set i x).getD j 0 = if j = i then x else v.getD j 0 := by
  simp only [List.getD_eq_getElem?_getD, List.getElem?_set]
  by_cases h : i = j
  · subst h; simp [hi]
  · rw [if_neg h, if_neg (fun e => h e.symm)]
theorem mid_eq {c d : List Int} {a b : Nat} (hl : d.length = c.length) (h : ∀ j, a ≤ j → j < b → d.getD j 0 = c.getD j 0) : (d.take b).drop a = (c.take b).drop a := by
  refine listEq_getD 0 (by simp [hl]) fun k hk => ?_
  simp only [List.length_drop, List.length_take] at hk
  have := h (a + k) (by omega) (by omega)
  simp only [List.getD_eq_getElem?_getD, List.getElem?_drop] at this ⊢
  rw [List.getElem?_take_of_lt (by omega), List.getElem?_take_of_lt (by omega)]
  exact this
theorem s28 {N : Nat} {l : List Int} (k1 : AllN l) (hl : l.length ≤ 600) (hN : 10000 ≤ N) (b : Nat) : f28F N (l.take b) = some ((), ((sm l 0 b : Int), ())) := by
  have := sub_len l 0 b
  have h := f28_eq (N := N) (sub_all k1 0 b) (by omega) (by omega)
  rw [sm_eq k1] at h
  exact h
theorem chg_loop {N : Nat} (hN : 10000 ≤ N) {l : List Int} (k1 : AllN l) (hl : l.length ≤ 600) {F T : Nat} (hF : F ≤ l.length) (hT : T ≤ l.length) (b0 b1 b2 : Int) : ∀ (m n i : Nat) (v : List Int), i + m = v.length → m < n → v.length ≤ 1200 →
    ∃ v', f9l0 N n b0 b1 b2 v l (F : Int) (T : Int) (v.length : Int) (i : Int) = some (((b0, (b1, (b2, ()))), (v', ())), ((), ())) ∧ v'.length = v.length ∧ ∀ j, sm l 0 (lo F) ≤ j → j < sm l 0 (hi T l.length) → v'.getD j 0 = v.getD j 0 := by
  intro m
  have m1 : (if (0 : Int) > IntKind.i64.wrap ((F : Int) - 1) then 0 else IntKind.i64.wrap ((F : Int) - 1)) = ((lo F : Nat) : Int) := by
    rw [w64 (by omega) (by omega)]; unfold lo; split <;> omega
  have m2 : (if ((l.length : Nat) : Int) < IntKind.i64.wrap ((T : Int) + 1) then ((l.length : Nat) : Int) else IntKind.i64.wrap ((T : Int) + 1)) = ((hi T l.length : Nat) : Int) := by
    rw [w64 (by omega) (by omega)]; unfold hi; split <;> omega
  have hhi1 : hi T l.length ≤ l.length := by unfold hi; omega
  have hlo : lo F ≤ F := by unfold lo; omega
  induction m with
  | zero =>
    intro n i v h1 h2 h3
    obtain ⟨n, rfl⟩ : ∃ n', n = n' + 1 := ⟨n - 1, by omega⟩
    refine ⟨v, ?_, rfl, fun _ _ _ => rfl⟩
    have : ¬ ((i : Int) < (v.length : Int)) := by omega
    simp only [f9l0, this, decide_false, cond_false]
  | succ m ih =>
    intro n i v h1 h2 h3
    obtain ⟨n, rfl⟩ : ∃ n', n = n' + 1 := ⟨n - 1, by omega⟩
    have w1 : IntKind.i64.wrap ((i : Int) + 1) = ((i + 1 : Nat) : Int) := by rw [w64 (by omega) (by omega)]; rfl
    have d1 : (i : Int) < (v.length : Int) := by omega
    simp only [f9l0, d1, decide_true, cond_true, m1, m2, show (0 : Int) ≤ ((lo F : Nat) : Int) by omega, show ((lo F : Nat) : Int) ≤ (l.length : Int) by omega, Bool.and_self, Int.toNat_natCast, s28 k1 hl hN, Option.bind_some, show (0 : Int) ≤ (i : Int) by omega, w1, show (0 : Int) ≤ ((hi T l.length : Nat) : Int) by omega, show ((hi T l.length : Nat) : Int) ≤ (l.length : Int) by omega]
    generalize IntKind.i64.wrap (IntKind.i64.wrap (IntKind.i64.wrap b2 * 1000) - 100000) = X
    obtain ⟨v1, e1, e2, e3⟩ := ih n (i + 1) (v.set i X) (by rw [List.length_set]; omega) (by omega) (by rw [List.length_set]; omega)
    rw [List.length_set] at e1 e2
    obtain ⟨v2, f1, f2, f3⟩ := ih n (i + 1) v (by omega) (by omega) (by omega)
    by_cases c1 : (i : Int) < ((sm l 0 (lo F) : Nat) : Int)
    · simp only [c1, decide_true, cond_true, e1, Option.bind_some]
      refine ⟨v1, rfl, e2, fun j hj1 hj2 => ?_⟩
      rw [e3 j hj1 hj2, set_getD _ _ _ _ (by omega), if_neg (by omega)]
    · by_cases c2 : ((sm l 0 (hi T l.length) : Nat) : Int) ≤ (i : Int)
      · simp only [c1, c2, decide_true, decide_false, cond_true, cond_false, e1, Option.bind_some]
        refine ⟨v1, rfl, e2, fun j hj1 hj2 => ?_⟩
        rw [e3 j hj1 hj2, set_getD _ _ _ _ (by omega), if_neg (by omega)]
      · simp only [c1, c2, decide_false, cond_false, f1, Option.bind_some]
        exact ⟨v2, rfl, f2, f3⟩
theorem own_loop {N : Nat} (hN : 10000 ≤ N) {l : List Int} (k1 : AllN l) (hl : l.length ≤ 600) {F : Nat} (hF : F < l.length) (b0 b1 b2 : Int) (c : List Int) : ∀ (m n i : Nat) (v : List Int), i + m = v.length → m < n → v.length ≤ 1200 → v.length = c.length →
    ∃ v', f9l2 N n b0 b1 b2 v c l (F : Int) (v.length : Int) (i : Int) = some (((b0, (b1, (b2, ()))), (v', ())), ((), ())) ∧ v'.length = v.length ∧ (∀ j, j < i → v'.getD j 0 = v.getD j 0) ∧ ∀ j, i ≤ j → j < v.length → ((sm l 0 F ≤ j ∧ j < sm l 0 (F + 1) → v'.getD j 0 = c.getD j 0) ∧ (¬ (sm l 0 F ≤ j ∧ j < sm l 0 (F + 1)) → -5000 ≤ v'.getD j 0 ∧ v'.getD j 0 ≤ 5000)) := by
  intro m
  induction m with
  | zero =>
    intro n i v h1 h2 h3 h4
    obtain ⟨n, rfl⟩ : ∃ n', n = n' + 1 := ⟨n - 1, by omega⟩
    refine ⟨v, ?_, rfl, fun _ _ => rfl, fun j _ _ => by omega⟩
    have : ¬ ((i : Int) < (v.length : Int)) := by omega
    simp only [f9l2, this, decide_false, cond_false]
  | succ m ih =>
    intro n i v h1 h2 h3 h4
    obtain ⟨n, rfl⟩ : ∃ n', n = n' + 1 := ⟨n - 1, by omega⟩
    have w1 : IntKind.i64.wrap ((i : Int) + 1) = ((i + 1 : Nat) : Int) := by rw [w64 (by omega) (by omega)]; rfl
    have w2 : IntKind.i64.wrap ((F : Int) + 1) = ((F + 1 : Nat) : Int) := by rw [w64 (by omega) (by omega)]; rfl
    have d1 : (i : Int) < (v.length : Int) := by omega
    have d2 : (i : Int) < (c.length : Int) := by omega
    simp only [f9l2, d1, d2, decide_true, cond_true, show (0 : Int) ≤ (F : Int) by omega, show (F : Int) ≤ (l.length : Int) by omega, Bool.and_self, Int.toNat_natCast, s28 k1 hl hN, Option.bind_some, show (0 : Int) ≤ (i : Int) by omega, w1, w2, show (0 : Int) ≤ ((F + 1 : Nat) : Int) by omega, show ((F + 1 : Nat) : Int) ≤ (l.length : Int) by omega]
    obtain ⟨y, hy⟩ : ∃ y, IntKind.i64.wrap (IntKind.i64.wrap b2 * (i : Int)) = y := ⟨_, rfl⟩
    rw [hy]
    have t1 : Int.tmod y 3000 < 3000 := Int.tmod_lt_of_pos y (by decide)
    have t2 : -3000 < Int.tmod y 3000 := by
      have h0 := Int.tmod_lt_of_pos (-y) (b := 3000) (by decide)
      rw [Int.neg_tmod] at h0
      omega
    have w3 : IntKind.i64.wrap (77 - Int.tmod y 3000) = 77 - Int.tmod y 3000 := w64 (by omega) (by omega)
    rw [w3]
    obtain ⟨X, hX⟩ : ∃ X, 77 - Int.tmod y 3000 = X := ⟨_, rfl⟩
    rw [hX]
    have key : ∀ z : Int, ((sm l 0 F ≤ i ∧ i < sm l 0 (F + 1) → z = c.getD i 0) ∧ (¬ (sm l 0 F ≤ i ∧ i < sm l 0 (F + 1)) → -5000 ≤ z ∧ z ≤ 5000)) →
        ∃ v', f9l2 N n b0 b1 b2 (v.set i z) c l (F : Int) (v.length : Int) ((i + 1 : Nat) : Int) = some (((b0, (b1, (b2, ()))), (v', ())), ((), ())) ∧ v'.length = v.length ∧ (∀ j, j < i → v'.getD j 0 = v.getD j 0) ∧ ∀ j, i ≤ j → j < v.length → ((sm l 0 F ≤ j ∧ j < sm l 0 (F + 1) → v'.getD j 0 = c.getD j 0) ∧ (¬ (sm l 0 F ≤ j ∧ j < sm l 0 (F + 1)) → -5000 ≤ v'.getD j 0 ∧ v'.getD j 0 ≤ 5000)) := fun z hz => by
      obtain ⟨v1, e1, e2, e3, e4⟩ := ih n (i + 1) (v.set i z) (by rw [List.length_set]; omega) (by omega) (by rw [List.length_set]; omega) (by rw [List.length_set]; omega)
      rw [List.length_set] at e1 e2 e4
      refine ⟨v1, e1, e2, fun j hj => ?_, fun j hj1 hj2 => ?_⟩
      · rw [e3 j (by omega), set_getD _ _ _ _ (by omega), if_neg (by omega)]
      · rcases Nat.eq_or_lt_of_le hj1 with h | h
        · subst h
          rw [e3 i (by omega), set_getD _ _ _ _ (by omega), if_pos rfl]
          exact hz
        · exact e4 j (by omega) hj2
    by_cases c1 : (i : Int) < ((sm l 0 F : Nat) : Int)
    · obtain ⟨v1, e1, e2⟩ := key X ⟨fun _ => by omega, fun _ => by omega⟩
      simp only [c1, decide_true, cond_true, e1, Option.bind_some]
      exact ⟨v1, rfl, e2⟩
    · by_cases c2 : ((sm l 0 (F + 1) : Nat) : Int) ≤ (i : Int)
      · obtain ⟨v1, e1, e2⟩ := key X ⟨fun _ => by omega, fun _ => by omega⟩
        simp only [c1, c2, decide_true, decide_false, cond_true, cond_false, e1, Option.bind_some]
        exact ⟨v1, rfl, e2⟩
      · obtain ⟨v1, e1, e2⟩ := key (c.getD i 0) ⟨fun _ => rfl, fun h => absurd (⟨by omega, by omega⟩ : sm l 0 F ≤ i ∧ i < sm l 0 (F + 1)) h⟩
        simp only [c1, c2, decide_false, cond_false, e1, Option.bind_some]
        exact ⟨v1, rfl, e2⟩
/-! ### The own range -/
theorem sub_get (l : List Int) {a : Nat} (h : a < l.length) : sub l a (a + 1) = [l.getD a 0] := by
  unfold sub
  rw [List.take_add_one, List.drop_append_of_le_length (by rw [List.length_take]; omega), List.drop_eq_nil_of_le (by rw [List.length_take]; omega)]
  simp [List.getElem?_eq_getElem h]
theorem hmin {p q : Int} (hp : p = 16 ∨ p = 128) (hq : q = 16 ∨ q = 128) : IntKind.i64.wrap (Int.tdiv (if p < q then p else q) 2) = ((min p.toNat q.toNat / 2 : Nat) : Int) := by
  rcases hp with rfl | rfl <;> rcases hq with rfl | rfl <;> decide
theorem f25_ok {N : Nat} (hN : 10000 ≤ N) {l : List Int} (hl : l.length ≤ 600) (hlay : lay l = true) {F : Nat} (hF : F < l.length) :
    ∃ lw hg : Nat, f25F N l (F : Int) = some ((), ((lw : Int), ((hg : Int), (0, ())))) ∧ sm l 0 F ≤ lw ∧ lw ≤ hg ∧ hg ≤ sm l 0 F + (l.getD F 0).toNat ∧
      (0 < F → sm l 0 F + min (l.getD (F - 1) 0).toNat (l.getD F 0).toNat / 2 ≤ lw) ∧ (F + 1 < l.length → hg + min (l.getD F 0).toNat (l.getD (F + 1) 0).toNat / 2 ≤ sm l 0 F + (l.getD F 0).toNat) := by
  obtain ⟨k1, _⟩ := lay_all hlay
  have h0 := k1 (l.getD F 0) (getD_mem hF)
  have hs : sm l 0 F ≤ 128 * 600 := by
    have h1 := sum_bd (sub_all k1 0 F)
    have h2 := sub_len l 0 F
    rw [sm_eq k1] at h1
    omega
  have s44 : f44F N (l.take F) = some ((), ((sm l 0 F : Int), ())) := by
    have := sub_len l 0 F
    have h := f44_eq (N := N) (sub_all k1 0 F) (by omega) (by omega)
    rw [sm_eq k1] at h
    exact h
  have w2 : IntKind.i64.wrap ((F : Int) + 1) = ((F + 1 : Nat) : Int) := by rw [w64 (by omega) (by omega)]; rfl
  unfold f25F
  rw [f43_eq (by omega) (by omega), hlay]
  simp only [Option.bind_some, Bool.not_true, cond_false, show ¬ ((F : Int) < 0) by omega, show ¬ ((l.length : Int) ≤ (F : Int)) by omega, decide_false, show (0 : Int) ≤ (F : Int) by omega, show (F : Int) ≤ (l.length : Int) by omega, show (F : Int) < (l.length : Int) by omega, decide_true, Bool.and_self, cond_true, Int.toNat_natCast, s44, w2]
  have cast2 : ∀ k : Nat, ((k : Nat) : Int) = (k : Int) := fun _ => rfl
  by_cases c1 : 0 < F <;> by_cases c2 : F + 1 < l.length
  · have w1 : IntKind.i64.wrap ((F : Int) - 1) = ((F - 1 : Nat) : Int) := by rw [w64 (by omega) (by omega)]; omega
    have h1 := k1 (l.getD (F - 1) 0) (getD_mem (by omega))
    have h2 := k1 (l.getD (F + 1) 0) (getD_mem (by omega))
    simp only [w1, show (0 : Int) < (F : Int) by omega, show (0 : Int) ≤ ((F - 1 : Nat) : Int) by omega, show ((F - 1 : Nat) : Int) < (l.length : Int) by omega, show ((F + 1 : Nat) : Int) < (l.length : Int) by omega, show (0 : Int) ≤ ((F + 1 : Nat) : Int) by omega, decide_true, Bool.and_self, cond_true, Int.toNat_natCast, hmin h0 h1, hmin h2 h0]
    generalize l.getD (F - 1) 0 = p at *
    generalize l.getD F 0 = q at *
    generalize l.getD (F + 1) 0 = r at *
    generalize sm l 0 F = s at *
    refine ⟨s + min q.toNat p.toNat / 2, s + q.toNat - min r.toNat q.toNat / 2, ?_, by omega, by omega, by omega, fun _ => by omega, fun _ => by omega⟩
    rw [w64 (by omega) (by omega), w64 (n := (s : Int) + q) (by omega) (by omega), w64 (by omega) (by omega)]
    congr 3 <;> first | omega | (congr 1; omega)
  · have w1 : IntKind.i64.wrap ((F : Int) - 1) = ((F - 1 : Nat) : Int) := by rw [w64 (by omega) (by omega)]; omega
    have h1 := k1 (l.getD (F - 1) 0) (getD_mem (by omega))
    simp only [w1, show (0 : Int) < (F : Int) by omega, show (0 : Int) ≤ ((F - 1 : Nat) : Int) by omega, show ((F - 1 : Nat) : Int) < (l.length : Int) by omega, show ¬ ((F + 1 : Nat) : Int) < (l.length : Int) by omega, decide_true, decide_false, Bool.and_self, cond_true, cond_false, Int.toNat_natCast, hmin h0 h1]
    generalize l.getD (F - 1) 0 = p at *
    generalize l.getD F 0 = q at *
    generalize sm l 0 F = s at *
    refine ⟨s + min q.toNat p.toNat / 2, s + q.toNat, ?_, by omega, by omega, by omega, fun _ => by omega, fun _ => by omega⟩
    rw [w64 (by omega) (by omega), w64 (by omega) (by omega)]
    congr 3 <;> first | omega | (congr 1; omega)
  · have h2 := k1 (l.getD (F + 1) 0) (getD_mem (by omega))
    simp only [show ¬ (0 : Int) < (F : Int) by omega, show ((F + 1 : Nat) : Int) < (l.length : Int) by omega, show (0 : Int) ≤ ((F + 1 : Nat) : Int) by omega, decide_true, decide_false, Bool.and_self, cond_true, cond_false, Int.toNat_natCast, hmin h2 h0]
    generalize l.getD F 0 = q at *
    generalize l.getD (F + 1) 0 = r at *
    generalize sm l 0 F = s at *
    refine ⟨s, s + q.toNat - min r.toNat q.toNat / 2, ?_, by omega, by omega, by omega, fun _ => by omega, fun _ => by omega⟩
    rw [w64 (n := (s : Int) + q) (by omega) (by omega), w64 (by omega) (by omega)]
    congr 3 <;> first | omega | (congr 1; omega)
  · simp only [show ¬ (0 : Int) < (F : Int) by omega, show ¬ ((F + 1 : Nat) : Int) < (l.length : Int) by omega, decide_true, decide_false, Bool.and_self, cond_true, cond_false]
    generalize l.getD F 0 = q at *
    generalize sm l 0 F = s at *
    refine ⟨s, s + q.toNat, ?_, by omega, by omega, by omega, fun _ => by omega, fun _ => by omega⟩
    rw [w64 (by omega) (by omega)]
    congr 3 <;> first | omega | (congr 1; omega)
/-- What is at the own places is what the blocks' inverses have there, and those hang on their own coefficients alone. -/
theorem own_val {N : Nat} {c l : List Int} (hA : AllN l) (hc : (c.length : Int) = l.sum) {F j : Nat} (hF : F < l.length) (h1 : sm l 0 F ≤ j) (h2 : j < sm l 0 F + (l.getD F 0).toNat)
    (h3 : 0 < F → sm l 0 F + min (l.getD (F - 1) 0).toNat (l.getD F 0).toNat / 2 ≤ j) (h4 : F + 1 < l.length → j + min (l.getD F 0).toNat (l.getD (F + 1) 0).toNat / 2 < sm l 0 F + (l.getD F 0).toNat) :
    (invL N l c).getD j 0 = (blk (inv N) [(l.getD F 0).toNat] ((c.take (sm l 0 F + (l.getD F 0).toNat)).drop (sm l 0 F))).getD (j - sm l 0 F) 0 := by
  generalize hm : (l.getD F 0).toNat = m at *
  have e0 : l = sub l 0 F ++ (sub l F (F + 1) ++ sub l (F + 1) l.length) := by
    rw [← sub_add l (by omega) (by omega), ← sub_add l (by omega) (by omega), sub_all0]
  have n0 : nl l = nl (sub l 0 F) ++ m :: nl (sub l (F + 1) l.length) := by
    conv => lhs; rw [e0, nl_app, nl_app, sub_get l hF]
    rw [show nl [l.getD F 0] = [m] by rw [← hm]; rfl]; rfl
  have hS : (nl l).sum = c.length := by have := nl_sum hA; omega
  have hsum : sm l 0 F + (m + (nl (sub l (F + 1) l.length)).sum) = c.length := by
    rw [← hS, n0, List.sum_append, List.sum_cons]; rfl
  have hb := blk_len (inv N) (p07.inv_len N) (nl l) c (nl_all hA)
  have hM : AllM [m] := by
    have := nl_all (sub_all hA F (F + 1))
    rw [sub_get l hF] at this
    rw [← hm]; exact this
  have hmid := blk_mid (inv N) (p07.inv_len N) (A := nl (sub l 0 F)) (M := [m]) (B := nl (sub l (F + 1) l.length)) (nl_all (sub_all hA _ _)) hM c (j := j - sm l 0 F) (by simp; omega)
  rw [show nl (sub l 0 F) ++ ([m] ++ nl (sub l (F + 1) l.length)) = nl l by rw [n0]; rfl, show (nl (sub l 0 F)).sum = sm l 0 F from rfl, show ([m] : List Nat).sum = m by simp, show sm l 0 F + (j - sm l 0 F) = j by omega] at hmid
  rw [← hmid]
  unfold invL
  conv => lhs; rw [n0, flds_app, ← n0]
  have hb' : (blk (inv N) (nl l) c).length = c.length := by rw [hb, hS]
  have r1 := flds_skip true N (nl (sub l (F + 1) l.length)) m (0 + (nl (sub l 0 F)).sum) j (flds true N 0 (nl (sub l 0 F) ++ [m]) (blk (inv N) (nl l) c)) (fun b s hbs => by
    show j + min m b / 2 < 0 + sm l 0 F + m
    rcases Nat.lt_or_ge (F + 1) l.length with h | h
    · have := h4 h
      rw [sub_add l (a := F + 1) (b := F + 2) (c := l.length) (by omega) (by omega), sub_get l h, nl_app, show nl [l.getD (F + 1) 0] = [(l.getD (F + 1) 0).toNat] from rfl] at hbs
      simp only [List.cons_append, List.nil_append, List.cons.injEq] at hbs
      rw [← hbs.1]
      omega
    · have : l.length = F + 1 := by omega
      rw [this, sub_nil] at hbs
      cases hbs) (by
    show 0 + sm l 0 F + (m :: nl (sub l (F + 1) l.length)).sum ≤ _
    rw [flds_len, hb', List.sum_cons]; omega)
  have r2 := flds_past true N (nl (sub l 0 F)) 0 m j (blk (inv N) (nl l) c) (fun a ha => by
    show 0 + sm l 0 F + min a m / 2 ≤ j
    rcases Nat.lt_or_ge F 1 with h | h
    · have : F = 0 := by omega
      rw [this, sub_nil] at ha
      cases ha
    · obtain ⟨k, rfl⟩ : ∃ k, F = k + 1 := ⟨F - 1, by omega⟩
      rw [sub_add l (Nat.zero_le k) (by omega), sub_get l (by omega), nl_app, show nl [l.getD k 0] = [(l.getD k 0).toNat] from rfl, List.getLast?_append] at ha
      have := h3 (by omega)
      rw [Nat.add_sub_cancel] at this
      generalize (l.getD k 0).toNat = x at *
      simp only [List.getLast?_singleton, Option.some_or, Option.some.injEq] at ha
      rw [← ha]
      omega) (by
    show 0 + sm l 0 F + m ≤ _
    rw [hb']; omega)
  exact r1.trans r2
theorem some_val {N : Nat} (hN : 200000 ≤ N) {c l : List Int} (hx : c.length ≤ 1200) (hl : l.length ≤ 600) (h : lay l = true) (k3 : (c.length : Int) = l.sum) (hr : c.all (inR 2097152) = true) {d : List Int} (hd : d.length = c.length) {f t : Nat} (hft : f ≤ t) (ht : t ≤ l.length)
    (hm : ∀ j, sm l 0 (lo f) ≤ j → j < sm l 0 (hi t l.length) → d.getD j 0 = c.getD j 0) :
    f23F N d l (f : Int) (t : Int) = some ((cutAt (sm l 0 f) (sm l 0 t - sm l 0 f) (invL N l c), ()), ((), (0, ()))) := by
  obtain ⟨hA, _⟩ := lay_all h
  have a1 := sm_add (l := l) (a := 0) (b := lo f) (c := hi t l.length) (by omega) (by unfold lo hi; omega)
  rw [f23_ok hN (by omega) hl h (by rw [hd]; exact k3) hft ht, ← a1, mid_eq hd hm, a1, inv_part hA hft ht, if_pos (all_drop (all_take hr _) _)]
theorem lapNear (c : List Int) (_ : Fit (.list (.int .i64)) c) (l : List Int) (_ : Fit (.list (.int .i64)) l) (a : Int × (Int × (Int × Unit))) (fa : Fit (.agg (.pair (.int .u8) (.pair (.int .u8) (.pair (.int .u8) .unit)))) a) : f9F 200000 c l a = some ((), (true, ())) := by
  obtain ⟨a0, a1, a2, ⟨⟩⟩ := a
  have q0 : 0 ≤ a0 ∧ a0 ≤ 255 := by
    have h1 : decide (IntKind.u8.min ≤ a0 ∧ a0 ≤ IntKind.u8.max) = true := by simpa [Fit, Lit.wf] using fa.1
    exact of_decide_eq_true h1
  have q1 : 0 ≤ a1 ∧ a1 ≤ 255 := by
    have h1 : decide (IntKind.u8.min ≤ a1 ∧ a1 ≤ IntKind.u8.max) = true := by simpa [Fit, Lit.wf] using fa.2.1
    exact of_decide_eq_true h1
  unfold f9F
  rw [f12_eq (by omega), awake (by omega)]
  by_cases hgt : gr c l = true
  · rw [hgt]; simp
  have hg : gr c l = false := by simpa using hgt
  rw [hg]
  obtain ⟨g1, g2, g3⟩ := gr_no hg
  simp only [Option.bind_some, cond_false]
  rw [f27_eq (by omega) (by omega)]
  cases hlay : lay l
  · simp
  obtain ⟨hA, hl5⟩ := lay_all hlay
  simp only [Option.bind_some, Bool.not_true, cond_false]
  by_cases hn0 : l.length = 0
  · simp [hn0]
  have e0 : (((l.length : Nat) : Int) == 0) = false := beq_eq_false_iff_ne.2 (by omega)
  rw [e0, f28_eq hA (by omega) (by omega)]
  simp only [Option.bind_some, cond_false, Bool.not_false, cond_true]
  by_cases k3n : ¬ ((c.length : Int) = l.sum)
  · have : (((c.length : Nat) : Int) != l.sum) = true := by simpa using k3n
    rw [this]; rfl
  have k3 : (c.length : Int) = l.sum := Decidable.not_not.1 k3n
  have k3' : (((c.length : Nat) : Int) != l.sum) = false := by simpa using k3
  rw [k3', f29_eq (by decide) (by decide) (by omega) (by omega)]
  simp only [Option.bind_some, cond_false]
  cases hr : c.all (inR 2097152)
  · rfl
  simp only [Bool.not_true, cond_false]
  obtain ⟨F, hF⟩ : ∃ F : Nat, F = a0.toNat % l.length := ⟨_, rfl⟩
  have hFl : F < l.length := by rw [hF]; exact Nat.mod_lt _ (by omega)
  obtain ⟨T, hT⟩ : ∃ T : Nat, T = F + 1 + a1.toNat % (l.length - F) := ⟨_, rfl⟩
  have hTl : T ≤ l.length := by
    have := Nat.mod_lt a1.toNat (show l.length - F > 0 by omega)
    omega
  have hTF : F < T := by omega
  have b0 : IntKind.i64.wrap a0 = ((a0.toNat : Nat) : Int) := by rw [w64 (by omega) (by omega)]; omega
  have b1 : IntKind.i64.wrap a1 = ((a1.toNat : Nat) : Int) := by rw [w64 (by omega) (by omega)]; omega
  have e1 : Int.tmod (IntKind.i64.wrap a0) ((l.length : Nat) : Int) = (F : Int) := by rw [b0, hF, ← Int.ofNat_tmod]
  have e2 : IntKind.i64.wrap (((l.length : Nat) : Int) - (F : Int)) = ((l.length - F : Nat) : Int) := by rw [w64 (by omega) (by omega)]; omega
  have e3 : IntKind.i64.wrap ((F : Int) + 1) = ((F + 1 : Nat) : Int) := by rw [w64 (by omega) (by omega)]; rfl
  have e4 : Int.tmod (IntKind.i64.wrap a1) ((l.length - F : Nat) : Int) = ((a1.toNat % (l.length - F) : Nat) : Int) := by rw [b1, ← Int.ofNat_tmod]
  have e5 : IntKind.i64.wrap (((F + 1 : Nat) : Int) + ((a1.toNat % (l.length - F) : Nat) : Int)) = (T : Int) := by rw [w64 (by omega) (by omega)]; omega
  have e6 : (((l.length - F : Nat) : Int) == 0) = false := beq_eq_false_iff_ne.2 (by omega)
  simp only [e1, e2, e3, e4, e5, e6, Bool.not_false, cond_true]
  have hS : (nl l).sum = c.length := by have := nl_sum hA; omega
  have htot : sm l 0 l.length = c.length := by unfold sm; rw [sub_all0]; exact hS
  have p1 := sm_add (l := l) (a := 0) (b := F) (c := T) (by omega) (by omega)
  have p2 := sm_add (l := l) (a := 0) (b := T) (c := l.length) (by omega) (by omega)
  have p3 := sm_add (l := l) (a := 0) (b := F) (c := F + 1) (by omega) (by omega)
  have p4 := sm_add (l := l) (a := 0) (b := F + 1) (c := l.length) (by omega) (by omega)
  have p5 : sm l F (F + 1) = (l.getD F 0).toNat := by unfold sm; rw [sub_get l hFl]; simp [nl]
  have he : er8 2097152 c l = 0 := by unfold er8 erS; rw [if_pos hlay, if_pos k3, if_pos rfl, if_pos hr]
  have i1 : f17F 200000 c l = some ((invL 200000 l c, ()), ((), (0, ()))) := by
    rw [f17_eq (by omega) g1 g2]; unfold resInv; rw [he, if_pos rfl]
  have i2 := some_val (N := 200000) (by omega) g1 g2 hlay k3 hr (d := c) rfl (f := F) (t := T) (by omega) hTl (fun _ _ _ => rfl)
  have hil := invL_len (N := 200000) (c := c) hA
  rw [hS] at hil
  have icut : (cutAt (sm l 0 F) (sm l 0 T - sm l 0 F) (invL 200000 l c)).length ≤ 5000 := by rw [cut_len]; omega
  obtain ⟨v1, u1, u2, u3⟩ := chg_loop (N := 200000) (by omega) hA g2 (F := F) (T := T) (by omega) hTl a0 a1 a2 c.length 200000 0 c (by omega) (by omega) g1
  rw [show ((0 : Nat) : Int) = 0 from rfl] at u1
  have i3 := some_val (N := 200000) (by omega) g1 g2 hlay k3 hr (d := v1) u2 (f := F) (t := T) (by omega) hTl u3
  obtain ⟨lw, hg', o1, o2, o3, o4, o5, o6⟩ := f25_ok (N := 200000) (by omega) g2 hlay hFl
  obtain ⟨v2, x1, x2, _, x4⟩ := own_loop (N := 200000) (by omega) hA g2 hFl a0 a1 a2 c c.length 200000 0 v1 (by omega) (by omega) (by omega) u2
  rw [show ((0 : Nat) : Int) = 0 from rfl, u2] at x1
  have hr2 : v2.all (inR 2097152) = true := by
    rw [List.all_eq_true]
    intro y hy
    obtain ⟨j, hj, rfl⟩ := List.mem_iff_getElem.1 hy
    have h5 := x4 j (by omega) (by omega)
    have h6 : v2.getD j 0 = v2[j] := by simp [List.getD_eq_getElem?_getD, List.getElem?_eq_getElem hj]
    rw [h6] at h5
    by_cases h7 : sm l 0 F ≤ j ∧ j < sm l 0 (F + 1)
    · rw [h5.1 h7]
      exact List.all_eq_true.1 hr _ (getD_mem (by omega))
    · have := h5.2 h7
      exact inR_iff.2 (by constructor <;> omega)
  have k32 : (v2.length : Int) = l.sum := by rw [x2, u2]; exact k3
  have he2 : er8 2097152 v2 l = 0 := by unfold er8 erS; rw [if_pos hlay, if_pos k32, if_pos rfl, if_pos hr2]
  have i4 : f17F 200000 v2 l = some ((invL 200000 l v2, ()), ((), (0, ()))) := by
    rw [f17_eq (by omega) (by omega) g2]; unfold resInv; rw [he2, if_pos rfl]
  have hil2 := invL_len (N := 200000) (c := v2) hA
  rw [hS] at hil2
  have hown : cutAt lw (hg' - lw) (invL 200000 l v2) = cutAt lw (hg' - lw) (invL 200000 l c) := by
    refine listEq_getD 0 (by rw [cut_len, cut_len, hil, hil2]) fun j hj => ?_
    rw [cut_len, hil2] at hj
    rw [cut_getD _ (by omega), cut_getD _ (by omega)]
    rw [own_val hA k32 hFl (by omega) (by omega) (fun h => by have := o5 h; omega) (fun h => by have := o6 h; omega), own_val hA k3 hFl (by omega) (by omega) (fun h => by have := o5 h; omega) (fun h => by have := o6 h; omega)]
    rw [mid_eq (c := c) (d := v2) (by omega) (fun j hj1 hj2 => (x4 j (by omega) (by omega)).1 ⟨hj1, by omega⟩)]
  rw [i1, i2]
  have ea : List.append ([] : List Int) c = c := rfl
  simp only [Option.bind_some, bne_self_eq_false, cond_false, hil, show (0 : Int) ≤ (F : Int) by omega, show (F : Int) ≤ (l.length : Int) by omega, decide_true, Bool.and_self, cond_true, Int.toNat_natCast, s28 hA g2 (show 10000 ≤ 200000 by omega), show (0 : Int) ≤ (T : Int) by omega, show (T : Int) ≤ (l.length : Int) by omega, show (0 : Int) ≤ ((sm l 0 F : Nat) : Int) by omega, show ((sm l 0 F : Nat) : Int) ≤ ((sm l 0 T : Nat) : Int) by omega, show ((sm l 0 T : Nat) : Int) ≤ (c.length : Int) by omega, ints (show 10000 ≤ 200000 by omega) rfl icut, Bool.not_true, show (List.length ([] : List Int) + c.length) * 8 ≤ 140737488355328 by simp; omega, ea, u1]
  rw [i3]
  simp only [Option.bind_some, bne_self_eq_false, cond_false, ints (show 10000 ≤ 200000 by omega) rfl icut, Bool.not_true, o1, show ¬ ((lw : Int) < 0) by omega, show ¬ ((hg' : Int) < (lw : Int)) by omega, show ¬ ((c.length : Int) < (hg' : Int)) by omega, decide_false, u2, x1]
  rw [i4]
  have icut2 : (cutAt lw (hg' - lw) (invL 200000 l c)).length ≤ 5000 := by rw [cut_len]; omega
  simp only [Option.bind_some, beq_self_eq_true, cond_true, hil, hil2, show (0 : Int) ≤ (lw : Int) by omega, show ((lw : Nat) : Int) ≤ ((hg' : Nat) : Int) by omega, show ((hg' : Nat) : Int) ≤ (c.length : Int) by omega, decide_true, Bool.and_self, Int.toNat_natCast, hown, ints (show 10000 ≤ 200000 by omega) rfl icut2]
end Go.Sh.c08
