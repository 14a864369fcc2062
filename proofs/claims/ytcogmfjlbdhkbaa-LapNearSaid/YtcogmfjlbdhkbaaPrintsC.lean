/- Pure functions, entries and equations of the functions that the statements reach: printed by a program of this session. -/
import Derived.Test.YtcogmfjlbdhkbaaPrintsB
set_option linter.unusedVariables false
set_option linter.unusedSimpArgs false
set_option maxRecDepth 20000
namespace Go.Sh.c08
open Go.Proofs

/-! f9: shawm/shawmlaw08.LapNear -/
abbrev f9p : Pat := ⟨[], [(0, .dat (.list I)), (1, .dat (.list I)), (2, .dat (.agg (.pair (.int .u8) (.pair (.int .u8) (.pair (.int .u8) .unit)))))]⟩
abbrev f9o : Pat := ⟨[], [(0, .dat .bool)]⟩
noncomputable def f9c : Code := (Try.f9.body).getD .skip
noncomputable def f9l0c : Code := (((loopsIn 0 f9c)[0]?).map (·.2)).getD .skip
abbrev f9l0p : Pat := ⟨[.box [.dat (.int .u8), .dat (.int .u8), .dat (.int .u8)], .vec 3 I], [(1, .dat (.list I)), (5, .bptr 0), (7, .dat I), (8, .dat I), (13, .vref 1), (112, .dat I), (113, .dat I)]⟩
abbrev f9l0x : List (Ex × Pat) := [(.exit 0, ⟨[.box [.dat (.int .u8), .dat (.int .u8), .dat (.int .u8)], .vec 3 I], [(13, .vref 1)]⟩)]
def f9l0 (N : Nat) : Nat → Int → Int → Int → (List Int) → (List Int) → Int → Int → Int → Int → Option (((Int × (Int × (Int × Unit))) × ((List Int) × Unit)) × (Unit × Unit))
  | 0, _, _, _, _, _, _, _, _, _ => none
  | n + 1, b0_0, b0_1, b0_2, v1, t1, t7, t8, t112, t113 =>
    bif (decide (t113 < t112)) then (
     bif ((true && (decide (0 ≤ (if 0 > (IntKind.i64.wrap (t7 - 1)) then 0 else (IntKind.i64.wrap (t7 - 1)))))) && (decide ((if 0 > (IntKind.i64.wrap (t7 - 1)) then 0 else (IntKind.i64.wrap (t7 - 1))) ≤ ((List.length t1 : Nat) : Int)))) then (
      (f28F N (t1.take (Int.toNat (if 0 > (IntKind.i64.wrap (t7 - 1)) then 0 else (IntKind.i64.wrap (t7 - 1)))))).bind fun y1 =>
      bif (decide (t113 < y1.2.1)) then (
       bif ((decide (0 ≤ t113)) && (decide (t113 < ((List.length v1 : Nat) : Int)))) then (
        (f9l0 N n b0_0 b0_1 b0_2 (List.set v1 (Int.toNat t113) (IntKind.i64.wrap ((IntKind.i64.wrap ((IntKind.i64.wrap b0_2) * 1000)) - 100000))) t1 t7 t8 t112 (IntKind.i64.wrap (t113 + 1))).bind some)
       else (
        none))
      else (
       bif ((true && (decide (0 ≤ (if ((List.length t1 : Nat) : Int) < (IntKind.i64.wrap (t8 + 1)) then ((List.length t1 : Nat) : Int) else (IntKind.i64.wrap (t8 + 1)))))) && (decide ((if ((List.length t1 : Nat) : Int) < (IntKind.i64.wrap (t8 + 1)) then ((List.length t1 : Nat) : Int) else (IntKind.i64.wrap (t8 + 1))) ≤ ((List.length t1 : Nat) : Int)))) then (
        (f28F N (t1.take (Int.toNat (if ((List.length t1 : Nat) : Int) < (IntKind.i64.wrap (t8 + 1)) then ((List.length t1 : Nat) : Int) else (IntKind.i64.wrap (t8 + 1)))))).bind fun y2 =>
        bif (decide (y2.2.1 ≤ t113)) then (
         bif ((decide (0 ≤ t113)) && (decide (t113 < ((List.length v1 : Nat) : Int)))) then (
          (f9l0 N n b0_0 b0_1 b0_2 (List.set v1 (Int.toNat t113) (IntKind.i64.wrap ((IntKind.i64.wrap ((IntKind.i64.wrap b0_2) * 1000)) - 100000))) t1 t7 t8 t112 (IntKind.i64.wrap (t113 + 1))).bind some)
         else (
          none))
        else (
         (f9l0 N n b0_0 b0_1 b0_2 v1 t1 t7 t8 t112 (IntKind.i64.wrap (t113 + 1))).bind some))
       else (
        none)))
     else (
      none))
    else (
     some (((b0_0, (b0_1, (b0_2, ()))), (v1, ())), ((), ())))
def f9l0L (N : Nat) : LoopE .unit := { blk := 0, pre := f9l0p, exits := f9l0x, wr := [14,113,114,115,116,117,118,119,120,121,122,123,124,125,126,127,128,129,130,131,132,133,134,135,136,137,138,139,140,141,142,143,144], F := fun x => f9l0 N N x.1.1.1 x.1.1.2.1 x.1.1.2.2.1 x.1.2.1 x.2.1 x.2.2.2.1 x.2.2.2.2.1 x.2.2.2.2.2.2.1 x.2.2.2.2.2.2.2.1 }
noncomputable def f9l2c : Code := (((loopsIn 0 f9c)[1]?).map (·.2)).getD .skip
abbrev f9l2p : Pat := ⟨[.box [.dat (.int .u8), .dat (.int .u8), .dat (.int .u8)], .vec 3 I], [(0, .dat (.list I)), (1, .dat (.list I)), (5, .bptr 0), (7, .dat I), (13, .vref 1), (186, .dat I), (187, .dat I)]⟩
abbrev f9l2x : List (Ex × Pat) := [(.exit 2, ⟨[.box [.dat (.int .u8), .dat (.int .u8), .dat (.int .u8)], .vec 3 I], [(13, .vref 1)]⟩)]
def f9l2 (N : Nat) : Nat → Int → Int → Int → (List Int) → (List Int) → (List Int) → Int → Int → Int → Option (((Int × (Int × (Int × Unit))) × ((List Int) × Unit)) × (Unit × Unit))
  | 0, _, _, _, _, _, _, _, _, _ => none
  | n + 1, b0_0, b0_1, b0_2, v1, t0, t1, t7, t186, t187 =>
    bif (decide (t187 < t186)) then (
     bif ((true && (decide (0 ≤ t7))) && (decide (t7 ≤ ((List.length t1 : Nat) : Int)))) then (
      (f28F N (t1.take (Int.toNat t7))).bind fun y3 =>
      bif (decide (t187 < y3.2.1)) then (
       bif ((decide (0 ≤ t187)) && (decide (t187 < ((List.length v1 : Nat) : Int)))) then (
        (f9l2 N n b0_0 b0_1 b0_2 (List.set v1 (Int.toNat t187) (IntKind.i64.wrap (77 - (Int.tmod (IntKind.i64.wrap ((IntKind.i64.wrap b0_2) * t187)) 3000)))) t0 t1 t7 t186 (IntKind.i64.wrap (t187 + 1))).bind some)
       else (
        none))
      else (
       bif ((true && (decide (0 ≤ (IntKind.i64.wrap (t7 + 1))))) && (decide ((IntKind.i64.wrap (t7 + 1)) ≤ ((List.length t1 : Nat) : Int)))) then (
        (f28F N (t1.take (Int.toNat (IntKind.i64.wrap (t7 + 1))))).bind fun y4 =>
        bif (decide (y4.2.1 ≤ t187)) then (
         bif ((decide (0 ≤ t187)) && (decide (t187 < ((List.length v1 : Nat) : Int)))) then (
          (f9l2 N n b0_0 b0_1 b0_2 (List.set v1 (Int.toNat t187) (IntKind.i64.wrap (77 - (Int.tmod (IntKind.i64.wrap ((IntKind.i64.wrap b0_2) * t187)) 3000)))) t0 t1 t7 t186 (IntKind.i64.wrap (t187 + 1))).bind some)
         else (
          none))
        else (
         bif ((decide (0 ≤ t187)) && (decide (t187 < ((List.length t0 : Nat) : Int)))) then (
          bif ((decide (0 ≤ t187)) && (decide (t187 < ((List.length v1 : Nat) : Int)))) then (
           (f9l2 N n b0_0 b0_1 b0_2 (List.set v1 (Int.toNat t187) (List.getD t0 (Int.toNat t187) 0)) t0 t1 t7 t186 (IntKind.i64.wrap (t187 + 1))).bind some)
          else (
           none))
         else (
          none)))
       else (
        none)))
     else (
      none))
    else (
     some (((b0_0, (b0_1, (b0_2, ()))), (v1, ())), ((), ())))
def f9l2L (N : Nat) : LoopE .unit := { blk := 2, pre := f9l2p, exits := f9l2x, wr := [20,187,188,189,190,191,192,193,194,195,196,197,198,199,200,201,202,203,204,205,206,207,208,209,210,211,212,213,214,215,216,217,218,219,220,221,222], F := fun x => f9l2 N N x.1.1.1 x.1.1.2.1 x.1.1.2.2.1 x.1.2.1 x.2.1 x.2.2.1 x.2.2.2.2.1 x.2.2.2.2.2.2.1 x.2.2.2.2.2.2.2.1 }
def f9F (N : Nat) (t0 : (List Int)) (t1 : (List Int)) (t2 : (Int × (Int × (Int × Unit)))) : Option (Unit × (Bool × Unit)) :=
  (f12F N t0 t1).bind fun y5 =>
  bif y5.2.1 then (
   (f13F N).bind fun y6 =>
   some ((), (y6.2.1, ())))
  else (
   (f27F N t1).bind fun y7 =>
   bif (!y7.2.1) then (
    (f13F N).bind fun y8 =>
    some ((), (y8.2.1, ())))
   else (
    bif (((List.length t1 : Nat) : Int) == 0) then (
     (f13F N).bind fun y9 =>
     some ((), (y9.2.1, ())))
    else (
     (f28F N t1).bind fun y10 =>
     bif (((List.length t0 : Nat) : Int) != y10.2.1) then (
      (f13F N).bind fun y11 =>
      some ((), (y11.2.1, ())))
     else (
      (f29F N 2097152 t0).bind fun y12 =>
      bif (!y12.2.1) then (
       (f13F N).bind fun y13 =>
       some ((), (y13.2.1, ())))
      else (
       bif (!(((List.length t1 : Nat) : Int) == 0)) then (
        bif (!((IntKind.i64.wrap (((List.length t1 : Nat) : Int) - (Int.tmod (IntKind.i64.wrap t2.1) ((List.length t1 : Nat) : Int)))) == 0)) then (
         (f17F N t0 t1).bind fun y14 =>
         (f23F N t0 t1 (Int.tmod (IntKind.i64.wrap t2.1) ((List.length t1 : Nat) : Int)) (IntKind.i64.wrap ((IntKind.i64.wrap ((Int.tmod (IntKind.i64.wrap t2.1) ((List.length t1 : Nat) : Int)) + 1)) + (Int.tmod (IntKind.i64.wrap t2.2.1) (IntKind.i64.wrap (((List.length t1 : Nat) : Int) - (Int.tmod (IntKind.i64.wrap t2.1) ((List.length t1 : Nat) : Int)))))))).bind fun y15 =>
         bif (y14.2.2.1 != 0) then (
          some ((), (false, ())))
         else (
          bif (y15.2.2.1 != 0) then (
           some ((), (false, ())))
          else (
           bif (((List.length y14.1.1 : Nat) : Int) != ((List.length t0 : Nat) : Int)) then (
            some ((), (false, ())))
           else (
            bif ((true && (decide (0 ≤ (Int.tmod (IntKind.i64.wrap t2.1) ((List.length t1 : Nat) : Int))))) && (decide ((Int.tmod (IntKind.i64.wrap t2.1) ((List.length t1 : Nat) : Int)) ≤ ((List.length t1 : Nat) : Int)))) then (
             (f28F N (t1.take (Int.toNat (Int.tmod (IntKind.i64.wrap t2.1) ((List.length t1 : Nat) : Int))))).bind fun y16 =>
             bif ((true && (decide (0 ≤ (IntKind.i64.wrap ((IntKind.i64.wrap ((Int.tmod (IntKind.i64.wrap t2.1) ((List.length t1 : Nat) : Int)) + 1)) + (Int.tmod (IntKind.i64.wrap t2.2.1) (IntKind.i64.wrap (((List.length t1 : Nat) : Int) - (Int.tmod (IntKind.i64.wrap t2.1) ((List.length t1 : Nat) : Int)))))))))) && (decide ((IntKind.i64.wrap ((IntKind.i64.wrap ((Int.tmod (IntKind.i64.wrap t2.1) ((List.length t1 : Nat) : Int)) + 1)) + (Int.tmod (IntKind.i64.wrap t2.2.1) (IntKind.i64.wrap (((List.length t1 : Nat) : Int) - (Int.tmod (IntKind.i64.wrap t2.1) ((List.length t1 : Nat) : Int))))))) ≤ ((List.length t1 : Nat) : Int)))) then (
              (f28F N (t1.take (Int.toNat (IntKind.i64.wrap ((IntKind.i64.wrap ((Int.tmod (IntKind.i64.wrap t2.1) ((List.length t1 : Nat) : Int)) + 1)) + (Int.tmod (IntKind.i64.wrap t2.2.1) (IntKind.i64.wrap (((List.length t1 : Nat) : Int) - (Int.tmod (IntKind.i64.wrap t2.1) ((List.length t1 : Nat) : Int)))))))))).bind fun y17 =>
              bif ((((decide (0 ≤ y16.2.1)) && (decide (y16.2.1 ≤ y17.2.1))) && (decide (y17.2.1 ≤ ((List.length y14.1.1 : Nat) : Int)))) && true) then (
               (f16F N y15.1.1 (cutAt (Int.toNat y16.2.1) ((Int.toNat y17.2.1) - (Int.toNat y16.2.1)) y14.1.1)).bind fun y18 =>
               bif (!y18.2.1) then (
                some ((), (false, ())))
               else (
                bif (decide ((List.length ([] : List Int) + List.length t0) * 8 ≤ 140737488355328)) then (
                 (f9l0 N N t2.1 t2.2.1 t2.2.2.1 (List.append ([] : List Int) t0) t1 (Int.tmod (IntKind.i64.wrap t2.1) ((List.length t1 : Nat) : Int)) (IntKind.i64.wrap ((IntKind.i64.wrap ((Int.tmod (IntKind.i64.wrap t2.1) ((List.length t1 : Nat) : Int)) + 1)) + (Int.tmod (IntKind.i64.wrap t2.2.1) (IntKind.i64.wrap (((List.length t1 : Nat) : Int) - (Int.tmod (IntKind.i64.wrap t2.1) ((List.length t1 : Nat) : Int))))))) ((List.length (List.append ([] : List Int) t0) : Nat) : Int) 0).bind fun y19 =>
                 (f23F N y19.1.2.1 t1 (Int.tmod (IntKind.i64.wrap t2.1) ((List.length t1 : Nat) : Int)) (IntKind.i64.wrap ((IntKind.i64.wrap ((Int.tmod (IntKind.i64.wrap t2.1) ((List.length t1 : Nat) : Int)) + 1)) + (Int.tmod (IntKind.i64.wrap t2.2.1) (IntKind.i64.wrap (((List.length t1 : Nat) : Int) - (Int.tmod (IntKind.i64.wrap t2.1) ((List.length t1 : Nat) : Int)))))))).bind fun y20 =>
                 bif (y20.2.2.1 != 0) then (
                  some ((), (false, ())))
                 else (
                  (f16F N y15.1.1 y20.1.1).bind fun y21 =>
                  bif (!y21.2.1) then (
                   some ((), (false, ())))
                  else (
                   (f25F N t1 (Int.tmod (IntKind.i64.wrap t2.1) ((List.length t1 : Nat) : Int))).bind fun y22 =>
                   bif (y22.2.2.2.1 != 0) then (
                    some ((), (false, ())))
                   else (
                    bif (decide (y22.2.1 < 0)) then (
                     some ((), (false, ())))
                    else (
                     bif (decide (y22.2.2.1 < y22.2.1)) then (
                      some ((), (false, ())))
                     else (
                      bif (decide (((List.length t0 : Nat) : Int) < y22.2.2.1)) then (
                       some ((), (false, ())))
                      else (
                       (f9l2 N N y19.1.1.1 y19.1.1.2.1 y19.1.1.2.2.1 y19.1.2.1 t0 t1 (Int.tmod (IntKind.i64.wrap t2.1) ((List.length t1 : Nat) : Int)) ((List.length y19.1.2.1 : Nat) : Int) 0).bind fun y23 =>
                       (f17F N y23.1.2.1 t1).bind fun y24 =>
                       bif (y24.2.2.1 == 0) then (
                        bif (((List.length y24.1.1 : Nat) : Int) == ((List.length y14.1.1 : Nat) : Int)) then (
                         bif ((((decide (0 ≤ y22.2.1)) && (decide (y22.2.1 ≤ y22.2.2.1))) && (decide (y22.2.2.1 ≤ ((List.length y24.1.1 : Nat) : Int)))) && true) then (
                          bif ((((decide (0 ≤ y22.2.1)) && (decide (y22.2.1 ≤ y22.2.2.1))) && (decide (y22.2.2.1 ≤ ((List.length y14.1.1 : Nat) : Int)))) && true) then (
                           (f16F N (cutAt (Int.toNat y22.2.1) ((Int.toNat y22.2.2.1) - (Int.toNat y22.2.1)) y24.1.1) (cutAt (Int.toNat y22.2.1) ((Int.toNat y22.2.2.1) - (Int.toNat y22.2.1)) y14.1.1)).bind fun y25 =>
                           bif y25.2.1 then (
                            (f13F N).bind fun y26 =>
                            some ((), (y26.2.1, ())))
                           else (
                            some ((), (false, ()))))
                          else (
                           none))
                         else (
                          none))
                        else (
                         some ((), (false, ()))))
                       else (
                        some ((), (false, ()))))))))))
                else (
                 none)))
              else (
               none))
             else (
              none))
            else (
             none)))))
        else (
         none))
       else (
        none))))))
def f9e (N : Nat) : Entry := { f := 9, pre := f9p, post := f9o, F := fun x => f9F N x.2.1 x.2.2.1 x.2.2.2.1 }
noncomputable def f9E (N : Nat) : Env .unit := { P := Try.prog, globs := globs, funs := [f12e N, f13e N, f27e N, f28e N, f29e N, f17e N, f23e N, f16e N, f25e N], loops := [f9l0L N, f9l2L N], ranges := [] }
theorem f9l0s (N : Nat) (n1 : Nat) (g : Unit) (b0_0 : Int) (b0_1 : Int) (b0_2 : Int) (v1 : (List Int)) (t1 : (List Int)) (t7 : Int) (t8 : Int) (t112 : Int) (t113 : Int) : runLoop (sT := .unit) (f9E N) (sumTy f9l0x) f9l0x (fun _ y => y) f9l0c f9l0p (fun _ x => f9l0 N n1 x.1.1.1 x.1.1.2.1 x.1.1.2.2.1 x.1.2.1 x.2.1 x.2.2.2.1 x.2.2.2.2.1 x.2.2.2.2.2.2.1 x.2.2.2.2.2.2.2.1) g (((b0_0, (b0_1, (b0_2, ()))), (v1, ())), (t1, ((), (t7, (t8, ((), (t112, (t113, ())))))))) = f9l0 N (n1 + 1) b0_0 b0_1 b0_2 v1 t1 t7 t8 t112 t113 := by
  kernel_rfl
theorem f9l0ok (N : Nat) : LoopOk (f9E N) Try.prog f9l0c (f9l0L N) :=
  loopOk (L := f9l0L N) (f := fun n x => f9l0 N n x.1.1.1 x.1.1.2.1 x.1.1.2.2.1 x.1.2.1 x.2.1 x.2.2.2.1 x.2.2.2.2.1 x.2.2.2.2.2.2.1 x.2.2.2.2.2.2.2.1) (N := N) (LoopsOk.none (by kernel_rfl) (by kernel_rfl)) (by kernel_rfl) (by kernel_rfl) rfl rfl (fun _ => rfl) (fun n1 g x => f9l0s N n1 g x.1.1.1 x.1.1.2.1 x.1.1.2.2.1 x.1.2.1 x.2.1 x.2.2.2.1 x.2.2.2.2.1 x.2.2.2.2.2.2.1 x.2.2.2.2.2.2.2.1)
theorem f9l2s (N : Nat) (n1 : Nat) (g : Unit) (b0_0 : Int) (b0_1 : Int) (b0_2 : Int) (v1 : (List Int)) (t0 : (List Int)) (t1 : (List Int)) (t7 : Int) (t186 : Int) (t187 : Int) : runLoop (sT := .unit) (f9E N) (sumTy f9l2x) f9l2x (fun _ y => y) f9l2c f9l2p (fun _ x => f9l2 N n1 x.1.1.1 x.1.1.2.1 x.1.1.2.2.1 x.1.2.1 x.2.1 x.2.2.1 x.2.2.2.2.1 x.2.2.2.2.2.2.1 x.2.2.2.2.2.2.2.1) g (((b0_0, (b0_1, (b0_2, ()))), (v1, ())), (t0, (t1, ((), (t7, ((), (t186, (t187, ())))))))) = f9l2 N (n1 + 1) b0_0 b0_1 b0_2 v1 t0 t1 t7 t186 t187 := by
  kernel_rfl
theorem f9l2ok (N : Nat) : LoopOk (f9E N) Try.prog f9l2c (f9l2L N) :=
  loopOk (L := f9l2L N) (f := fun n x => f9l2 N n x.1.1.1 x.1.1.2.1 x.1.1.2.2.1 x.1.2.1 x.2.1 x.2.2.1 x.2.2.2.2.1 x.2.2.2.2.2.2.1 x.2.2.2.2.2.2.2.1) (N := N) (LoopsOk.none (by kernel_rfl) (by kernel_rfl)) (by kernel_rfl) (by kernel_rfl) rfl rfl (fun _ => rfl) (fun n1 g x => f9l2s N n1 g x.1.1.1 x.1.1.2.1 x.1.1.2.2.1 x.1.2.1 x.2.1 x.2.2.1 x.2.2.2.2.1 x.2.2.2.2.2.2.1 x.2.2.2.2.2.2.2.1)
theorem f9q (N : Nat) (t0 : (List Int)) (t1 : (List Int)) (t2 : (Int × (Int × (Int × Unit)))) : runFun (f9E N) f9o.ty f9o (fun _ y => y) Try.f9 f9p () ((), (t0, (t1, (t2, ())))) = f9F N t0 t1 t2 := by
  kernel_rfl
theorem f9ok (N : Nat) : EntryOk Try.prog globs (f9e N) :=
  funOk (E := f9E N) (e := f9e N) (fn := Try.f9) (c := f9c) rfl (by kernel_rfl) (by kernel_rfl) (by kernel_rfl) (by kernel_rfl) rfl rfl (List.forall_mem_cons.2 ⟨f12ok N, (List.forall_mem_cons.2 ⟨f13ok N, (List.forall_mem_cons.2 ⟨f27ok N, (List.forall_mem_cons.2 ⟨f28ok N, (List.forall_mem_cons.2 ⟨f29ok N, (List.forall_mem_cons.2 ⟨f17ok N, (List.forall_mem_cons.2 ⟨f23ok N, (List.forall_mem_cons.2 ⟨f16ok N, (List.forall_mem_cons.2 ⟨f25ok N, (List.forall_mem_nil _)⟩)⟩)⟩)⟩)⟩)⟩)⟩)⟩)⟩) (LoopsOk.both (l := [(0, f9l0c), (2, f9l2c)]) (r := []) (by kernel_rfl) (by kernel_rfl) (List.forall_mem_cons.2 ⟨LoopFor.of (L := f9l0L N) (by kernel_rfl) (f9l0ok N) (by kernel_rfl), (List.forall_mem_cons.2 ⟨LoopFor.of (L := f9l2L N) (by kernel_rfl) (f9l2ok N) (by kernel_rfl), (List.forall_mem_nil _)⟩)⟩) (List.forall_mem_nil _)) (by kernel_rfl) (by kernel_rfl) (by kernel_rfl) (fun x => f9q N x.2.1 x.2.2.1 x.2.2.2.1)

/-! f11: shawm/shawmlaw08.LapMemory -/
abbrev f11p : Pat := ⟨[], [(0, .dat (.list I)), (1, .dat (.list I))]⟩
abbrev f11o : Pat := ⟨[], [(0, .dat .bool)]⟩
noncomputable def f11c : Code := (Try.f11.body).getD .skip
noncomputable def f11l0c : Code := (((loopsIn 0 f11c)[0]?).map (·.2)).getD .skip
abbrev f11l0p : Pat := ⟨[.vec 22 (.list I)], [(18, .vref 0), (81, .dat (.list (.list I))), (82, .dat I), (83, .dat I)]⟩
abbrev f11l0x : List (Ex × Pat) := [(.exit 0, ⟨[.vec 22 (.list I)], [(18, .vref 0)]⟩)]
def f11l0 (N : Nat) : Nat → (List (List Int)) → (List (List Int)) → Int → Int → Option (((List (List Int)) × Unit) × (Unit × Unit))
  | 0, _, _, _, _ => none
  | n + 1, v0, t81, t82, t83 =>
    bif (decide (t83 < t82)) then (
     bif ((decide (0 ≤ t83)) && (decide (t83 < ((List.length t81 : Nat) : Int)))) then (
      bif (decide ((List.length ([] : List Int) + List.length (List.getD t81 (Int.toNat t83) ([] : (List Int)))) * 8 ≤ 140737488355328)) then (
       bif (decide ((List.length v0 + List.length [(List.append ([] : List Int) (List.getD t81 (Int.toNat t83) ([] : (List Int))))]) * 24 ≤ 140737488355328)) then (
        (f11l0 N n (List.append v0 [(List.append ([] : List Int) (List.getD t81 (Int.toNat t83) ([] : (List Int))))]) t81 t82 (IntKind.i64.wrap (t83 + 1))).bind some)
       else (
        none))
      else (
       none))
     else (
      none))
    else (
     some ((v0, ()), ((), ())))
def f11l0L (N : Nat) : LoopE .unit := { blk := 0, pre := f11l0p, exits := f11l0x, wr := [18,20,83,84,85,86,87,88,89,90,91,92,93], F := fun x => f11l0 N N x.1.1 x.2.2.1 x.2.2.2.1 x.2.2.2.2.1 }
noncomputable def f11l2c : Code := (((loopsIn 0 f11c)[1]?).map (·.2)).getD .skip
abbrev f11l2p : Pat := ⟨[.vec 3 I], [(5, .vref 0), (95, .dat I), (96, .dat I)]⟩
abbrev f11l2x : List (Ex × Pat) := [(.exit 2, ⟨[], []⟩)]
def f11l2 (N : Nat) : Nat → (List Int) → Int → Int → Option (Unit × Unit)
  | 0, _, _, _ => none
  | n + 1, v0, t95, t96 =>
    bif (decide (t96 < t95)) then (
     bif ((decide (0 ≤ t96)) && (decide (t96 < ((List.length v0 : Nat) : Int)))) then (
      (f11l2 N n (List.set v0 (Int.toNat t96) 9) t95 (IntKind.i64.wrap (t96 + 1))).bind some)
     else (
      none))
    else (
     some ((), ()))
def f11l2L (N : Nat) : LoopE .unit := { blk := 2, pre := f11l2p, exits := f11l2x, wr := [21,96,97,98,99,100,101,102], F := fun x => f11l2 N N x.1.1 x.2.2.1 x.2.2.2.1 }
noncomputable def f11l4c : Code := (((loopsIn 0 f11c)[2]?).map (·.2)).getD .skip
abbrev f11l4p : Pat := ⟨[], [(17, .dat (.list (.list I))), (18, .dat (.list (.list I))), (104, .dat I), (105, .dat I)]⟩
abbrev f11l4x : List (Ex × Pat) := [(.exit 4, ⟨[], []⟩), (.ret, ⟨[], [(4, .dat .bool)]⟩)]
def f11l4 (N : Nat) : Nat → (List (List Int)) → (List (List Int)) → Int → Int → Option ((Unit × Unit) ⊕ (Unit × (Bool × Unit)))
  | 0, _, _, _, _ => none
  | n + 1, t17, t18, t104, t105 =>
    bif (decide (t105 < t104)) then (
     bif ((decide (0 ≤ t105)) && (decide (t105 < ((List.length t17 : Nat) : Int)))) then (
      bif ((decide (0 ≤ t105)) && (decide (t105 < ((List.length t18 : Nat) : Int)))) then (
       (f16F N (List.getD t17 (Int.toNat t105) ([] : (List Int))) (List.getD t18 (Int.toNat t105) ([] : (List Int)))).bind fun y1 =>
       bif (!y1.2.1) then (
        some (Sum.inr ((), (false, ()))))
       else (
        (f11l4 N n t17 t18 t104 (IntKind.i64.wrap (t105 + 1))).bind some))
      else (
       none))
     else (
      none))
    else (
     some (Sum.inl ((), ())))
def f11l4L (N : Nat) : LoopE .unit := { blk := 4, pre := f11l4p, exits := f11l4x, wr := [4,22,105,106,107,108,109,110,111,112,113,114,115,116,117,118], F := fun x => f11l4 N N x.2.1 x.2.2.1 x.2.2.2.1 x.2.2.2.2.1 }
def f11F (N : Nat) (t0 : (List Int)) (t1 : (List Int)) : Option (Unit × (Bool × Unit)) :=
  (f12F N t0 t1).bind fun y2 =>
  bif y2.2.1 then (
   (f13F N).bind fun y3 =>
   some ((), (y3.2.1, ())))
  else (
   bif (decide ((List.length ([] : List Int) + List.length t0) * 8 ≤ 140737488355328)) then (
    bif (decide ((List.length ([] : List Int) + List.length t1) * 8 ≤ 140737488355328)) then (
     (f14F N (List.append ([] : List Int) t0) (List.append ([] : List Int) t1)).bind fun y4 =>
     (f17F N (List.append ([] : List Int) t0) (List.append ([] : List Int) t1)).bind fun y5 =>
     (f19F N (List.append ([] : List Int) t0) (List.append ([] : List Int) t1)).bind fun y6 =>
     (f21F N (List.append ([] : List Int) t0) (List.append ([] : List Int) t1)).bind fun y7 =>
     (f23F N (List.append ([] : List Int) t0) (List.append ([] : List Int) t1) 0 ((List.length (List.append ([] : List Int) t1) : Nat) : Int)).bind fun y8 =>
     (f16F N (List.append ([] : List Int) t0) t0).bind fun y9 =>
     bif (!y9.2.1) then (
      some ((), (false, ())))
     else (
      (f16F N (List.append ([] : List Int) t1) t1).bind fun y10 =>
      bif (!y10.2.1) then (
       some ((), (false, ())))
      else (
       (f11l0 N N ([] : List (List Int)) [y4.1.1, y5.1.1, y6.1.1, y7.1.1, y8.1.1] ((List.length [y4.1.1, y5.1.1, y6.1.1, y7.1.1, y8.1.1] : Nat) : Int) 0).bind fun y11 =>
       (f11l2 N N (List.append ([] : List Int) t0) ((List.length (List.append ([] : List Int) t0) : Nat) : Int) 0).bind fun y12 =>
       (f11l4 N N [y4.1.1, y5.1.1, y6.1.1, y7.1.1, y8.1.1] y11.1.1 ((List.length [y4.1.1, y5.1.1, y6.1.1, y7.1.1, y8.1.1] : Nat) : Int) 0).bind fun y13 =>
       Sum.elim (fun u14 =>
         (f13F N).bind fun y16 =>
         some ((), (y16.2.1, ())))
        (fun w15 =>
         some ((), (w15.2.1, ()))) y13)))
    else (
     none))
   else (
    none))
def f11e (N : Nat) : Entry := { f := 11, pre := f11p, post := f11o, F := fun x => f11F N x.2.1 x.2.2.1 }
noncomputable def f11E (N : Nat) : Env .unit := { P := Try.prog, globs := globs, funs := [f12e N, f13e N, f14e N, f17e N, f19e N, f21e N, f23e N, f16e N], loops := [f11l0L N, f11l2L N, f11l4L N], ranges := [] }
theorem f11l0s (N : Nat) (n1 : Nat) (g : Unit) (v0 : (List (List Int))) (t81 : (List (List Int))) (t82 : Int) (t83 : Int) : runLoop (sT := .unit) (f11E N) (sumTy f11l0x) f11l0x (fun _ y => y) f11l0c f11l0p (fun _ x => f11l0 N n1 x.1.1 x.2.2.1 x.2.2.2.1 x.2.2.2.2.1) g ((v0, ()), ((), (t81, (t82, (t83, ()))))) = f11l0 N (n1 + 1) v0 t81 t82 t83 := by
  kernel_rfl
theorem f11l0ok (N : Nat) : LoopOk (f11E N) Try.prog f11l0c (f11l0L N) :=
  loopOk (L := f11l0L N) (f := fun n x => f11l0 N n x.1.1 x.2.2.1 x.2.2.2.1 x.2.2.2.2.1) (N := N) (LoopsOk.none (by kernel_rfl) (by kernel_rfl)) (by kernel_rfl) (by kernel_rfl) rfl rfl (fun _ => rfl) (fun n1 g x => f11l0s N n1 g x.1.1 x.2.2.1 x.2.2.2.1 x.2.2.2.2.1)
theorem f11l2s (N : Nat) (n1 : Nat) (g : Unit) (v0 : (List Int)) (t95 : Int) (t96 : Int) : runLoop (sT := .unit) (f11E N) (sumTy f11l2x) f11l2x (fun _ y => y) f11l2c f11l2p (fun _ x => f11l2 N n1 x.1.1 x.2.2.1 x.2.2.2.1) g ((v0, ()), ((), (t95, (t96, ())))) = f11l2 N (n1 + 1) v0 t95 t96 := by
  kernel_rfl
theorem f11l2ok (N : Nat) : LoopOk (f11E N) Try.prog f11l2c (f11l2L N) :=
  loopOk (L := f11l2L N) (f := fun n x => f11l2 N n x.1.1 x.2.2.1 x.2.2.2.1) (N := N) (LoopsOk.none (by kernel_rfl) (by kernel_rfl)) (by kernel_rfl) (by kernel_rfl) rfl rfl (fun _ => rfl) (fun n1 g x => f11l2s N n1 g x.1.1 x.2.2.1 x.2.2.2.1)
theorem f11l4s (N : Nat) (n1 : Nat) (g : Unit) (t17 : (List (List Int))) (t18 : (List (List Int))) (t104 : Int) (t105 : Int) : runLoop (sT := .unit) (f11E N) (sumTy f11l4x) f11l4x (fun _ y => y) f11l4c f11l4p (fun _ x => f11l4 N n1 x.2.1 x.2.2.1 x.2.2.2.1 x.2.2.2.2.1) g ((), (t17, (t18, (t104, (t105, ()))))) = f11l4 N (n1 + 1) t17 t18 t104 t105 := by
  kernel_rfl
theorem f11l4ok (N : Nat) : LoopOk (f11E N) Try.prog f11l4c (f11l4L N) :=
  loopOk (L := f11l4L N) (f := fun n x => f11l4 N n x.2.1 x.2.2.1 x.2.2.2.1 x.2.2.2.2.1) (N := N) (LoopsOk.none (by kernel_rfl) (by kernel_rfl)) (by kernel_rfl) (by kernel_rfl) rfl rfl (fun _ => rfl) (fun n1 g x => f11l4s N n1 g x.2.1 x.2.2.1 x.2.2.2.1 x.2.2.2.2.1)
theorem f11q (N : Nat) (t0 : (List Int)) (t1 : (List Int)) : runFun (f11E N) f11o.ty f11o (fun _ y => y) Try.f11 f11p () ((), (t0, (t1, ()))) = f11F N t0 t1 := by
  kernel_rfl
theorem f11ok (N : Nat) : EntryOk Try.prog globs (f11e N) :=
  funOk (E := f11E N) (e := f11e N) (fn := Try.f11) (c := f11c) rfl (by kernel_rfl) (by kernel_rfl) (by kernel_rfl) (by kernel_rfl) rfl rfl (List.forall_mem_cons.2 ⟨f12ok N, (List.forall_mem_cons.2 ⟨f13ok N, (List.forall_mem_cons.2 ⟨f14ok N, (List.forall_mem_cons.2 ⟨f17ok N, (List.forall_mem_cons.2 ⟨f19ok N, (List.forall_mem_cons.2 ⟨f21ok N, (List.forall_mem_cons.2 ⟨f23ok N, (List.forall_mem_cons.2 ⟨f16ok N, (List.forall_mem_nil _)⟩)⟩)⟩)⟩)⟩)⟩)⟩)⟩) (LoopsOk.both (l := [(0, f11l0c), (2, f11l2c), (4, f11l4c)]) (r := []) (by kernel_rfl) (by kernel_rfl) (List.forall_mem_cons.2 ⟨LoopFor.of (L := f11l0L N) (by kernel_rfl) (f11l0ok N) (by kernel_rfl), (List.forall_mem_cons.2 ⟨LoopFor.of (L := f11l2L N) (by kernel_rfl) (f11l2ok N) (by kernel_rfl), (List.forall_mem_cons.2 ⟨LoopFor.of (L := f11l4L N) (by kernel_rfl) (f11l4ok N) (by kernel_rfl), (List.forall_mem_nil _)⟩)⟩)⟩) (List.forall_mem_nil _)) (by kernel_rfl) (by kernel_rfl) (by kernel_rfl) (fun x => f11q N x.2.1 x.2.2.1)

end Go.Sh.c08
