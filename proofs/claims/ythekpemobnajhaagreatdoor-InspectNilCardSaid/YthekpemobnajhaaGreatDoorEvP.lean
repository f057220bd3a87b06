/-
  The schedules of regions that draw their order; a call by the reckoner. Conditions: none; where it is told, what ratchet/sha.table holds.
-/
import Derived.Test.YthekpemobnajhaaGreatDoorEvR
import Derived.Test.YthekpemobnajhaaGreatDoorEvZ
import Derived.Test.YthekpemobnajhaaGreatDoorProg
import Derived.Test.YthekpemobnajhaaGreatDoorSxT
import Derived.Lib.LaidTab
namespace Go.Proofs.YthekpemobnajhaaGreatDoor
open Go.RowKit Go.Sx Go.Ev
set_option linter.unusedVariables false
set_option linter.unusedSimpArgs false
set_option linter.unnecessarySimpa false
set_option maxRecDepth 100000
def look {α : Type} (id : Nat) : List (Nat × α) → Option α
  | [] => none
  | e :: l => bif Nat.beq e.1 id then some e.2 else look id l
theorem look_mem {α : Type} {id : Nat} {x : α} : ∀ {l : List (Nat × α)}, look id l = some x → (id, x) ∈ l
  | e :: l, h => by
    simp only [look] at h
    cases hb : Nat.beq e.1 id with
    | true =>
      rw [hb] at h
      have := Nat.eq_of_beq_eq_true hb
      simp only [cond_true, Option.some.injEq] at h
      subst this h
      exact List.mem_cons_self ..
    | false => rw [hb] at h; exact List.mem_cons_of_mem _ (look_mem h)
def planL : List (Nat × List (Nat × Sched)) := [(10, [(1, [(0, true), (1, true), (2, true), (3, true), (4, true), (5, true), (6, true), (7, true), (8, false), (9, true), (10, true), (11, true), (12, true), (13, true)], [0, 1, 3, 7, 0, 16, 48, 112, 255, 511, 1023, 1023, 2047, 8191], none)]),
  (11, [(5, [(0, true), (1, true), (2, false)], [0, 0, 3], none), (7, [(0, true), (1, true), (2, true), (3, true), (4, true), (5, true), (6, true), (7, false), (8, true), (9, true), (10, true), (11, false), (12, false), (13, true)], [0, 1, 3, 7, 0, 0, 0, 127, 255, 511, 511, 0, 3071, 8191], some 11), (9, [(0, true), (1, true), (2, false)], [0, 0, 3], none), (10, [(0, true), (1, true), (2, false)], [0, 0, 3], none)]),
  (14, [(9, [(0, true), (1, true), (2, true), (3, true), (4, true), (5, true), (6, true), (7, true), (8, true), (9, true)], [0, 0, 0, 4, 12, 28, 1, 67, 255, 511], none)]),
  (15, [(4, [(0, true), (1, true), (2, true), (3, true), (4, true), (5, true), (6, true), (7, false)], [0, 1, 3, 7, 0, 0, 32, 127], none), (5, [(0, true), (1, true), (2, true), (3, true), (4, true), (5, true), (6, true), (7, true), (8, false), (9, false), (10, true), (11, true), (12, false)], [0, 0, 2, 6, 14, 0, 0, 96, 224, 510, 1023, 2047, 4095], none)]),
  (16, [(9, [(0, true), (1, true), (2, true), (3, true), (4, true), (5, true), (6, true), (7, true), (8, true), (9, true), (10, true), (11, true), (12, true), (13, false)], [0, 1, 3, 7, 0, 16, 0, 64, 192, 448, 0, 1024, 4032, 8191], none)]),
  (19, [(1, [(0, true), (1, true), (2, false), (3, false), (4, false), (5, true), (6, false), (7, false), (8, false)], [0, 0, 0, 4, 12, 31, 63, 0, 255], some 7)]),
  (20, [(1, [(0, true), (1, true), (2, true), (3, true), (4, true), (5, true), (6, true), (7, true), (8, true), (9, true), (10, false), (11, true), (12, true), (13, true), (14, true), (15, true), (16, false), (17, true), (18, true), (19, true), (20, false)], [0, 0, 0, 4, 12, 28, 0, 64, 192, 448, 1020, 2044, 4092, 4092, 8189, 24573, 57341, 131071, 262143, 524287, 1048575], none)]),
  (23, [(7, [(0, true), (1, true), (2, true), (3, true), (4, true), (5, true), (6, true), (7, false), (8, false), (9, true), (10, true), (11, false), (12, true)], [0, 1, 3, 7, 0, 0, 0, 64, 255, 511, 511, 2047, 4095], none)]),
  (24, [(3, [(0, true), (1, true), (2, true), (3, true), (4, true), (5, false), (6, true)], [0, 1, 3, 7, 0, 31, 63], none), (6, [(0, true), (1, true), (2, true), (3, true), (4, true), (5, false)], [0, 1, 3, 7, 0, 31], none), (7, [(0, true), (1, true), (2, true), (3, true), (4, true), (5, false)], [0, 1, 3, 7, 0, 31], none), (8, [(0, true), (1, true), (2, true), (3, true), (4, true), (5, true), (6, true), (7, true), (8, true), (9, true), (10, true), (11, true), (12, true), (13, true), (14, true), (15, true), (16, true), (17, true), (18, true), (19, true), (20, true), (21, true), (22, true), (23, true)], [0, 1, 0, 4, 12, 28, 63, 127, 255, 511, 1023, 2047, 4095, 8191, 16383, 32767, 65535, 16383, 147455, 409599, 933887, 1982463, 4194303, 8388607], none)]),
  (26, [(2, [(0, true), (1, true), (2, true), (3, false)], [0, 0, 2, 7], none), (3, [(0, true), (1, true), (2, true), (3, true), (4, true), (5, true), (6, true), (7, true), (9, true), (10, true), (11, true), (12, true), (13, true), (14, true), (15, true), (16, true), (17, true), (18, true), (19, true), (20, true), (8, false), (21, false), (22, true), (23, true), (24, false)], [0, 1, 3, 7, 0, 16, 48, 112, 240, 0, 512, 1536, 3584, 0, 8192, 24576, 57344, 0, 131072, 393216, 917504, 2097136, 4194303, 8388607, 16777215], none)]),
  (27, [(2, [(0, true), (3, true), (4, true), (1, false), (2, true), (5, true), (6, false), (7, false)], [0, 1, 3, 0, 0, 31, 0, 127], some 6), (9, [(1, true), (2, true), (3, true), (0, false), (4, true), (5, true), (6, true), (7, true), (8, false), (9, false), (10, true)], [0, 0, 2, 6, 15, 31, 63, 63, 0, 383, 1023], some 8)]),
  (31, [(7, [(0, true), (1, true), (2, true), (3, true), (4, true), (5, true), (6, true), (7, true), (8, true), (9, true), (10, false)], [0, 1, 3, 7, 0, 16, 48, 127, 255, 511, 1023], none)]),
  (38, [(0, [(0, true), (1, true), (2, false), (3, true), (4, true), (5, true), (6, true), (7, true), (8, false), (9, false)], [0, 0, 2, 6, 14, 14, 31, 95, 223, 511], none)]),
  (40, [(0, [(0, true), (1, true), (2, false), (3, true), (4, true), (5, true), (6, true), (7, true), (8, false), (9, false)], [0, 0, 2, 6, 14, 14, 31, 95, 223, 511], none)]),
  (41, [(6, [(0, true), (1, true), (2, true), (3, true), (4, true), (5, false), (6, false), (7, false), (8, true), (9, true), (10, false)], [0, 0, 2, 6, 14, 0, 32, 126, 255, 511, 1023], none)]),
  (42, [(0, [(0, true), (1, true), (2, false), (3, true), (4, true), (5, true), (6, true), (7, true), (8, false), (9, false)], [0, 0, 2, 6, 14, 14, 31, 95, 223, 511], none)]),
  (44, [(0, [(0, true), (1, true), (2, false), (3, true), (4, true), (5, true), (6, true), (7, true), (8, false), (9, false)], [0, 0, 2, 6, 14, 14, 31, 95, 223, 511], none)]),
  (50, [(1, [(0, true), (1, true), (2, false), (3, false)], [0, 0, 2, 7], none)]),
  (51, [(4, [(0, true), (1, true), (2, true), (3, true), (4, true), (5, true), (6, true), (7, true)], [0, 0, 2, 6, 1, 17, 63, 127], none), (5, [(0, true), (1, true), (2, true), (3, true), (4, true), (5, true), (6, true), (7, true), (8, true), (9, true), (10, true), (11, true), (12, true), (13, false), (14, false), (15, true), (16, true), (17, false)], [0, 0, 2, 6, 14, 0, 32, 96, 0, 256, 768, 1792, 4064, 8160, 16382, 32767, 65535, 131071], none), (6, [(0, true), (1, true), (2, true), (3, true), (4, true), (5, false), (6, false), (7, false), (8, true), (9, false)], [0, 0, 2, 6, 0, 16, 48, 126, 255, 511], none)]),
  (52, [(4, [(0, true), (1, true), (2, true), (3, true), (4, true), (5, true), (6, true), (7, true)], [0, 1, 0, 4, 12, 28, 63, 127], none), (7, [(0, true), (1, true), (2, true), (3, true), (4, true), (5, true), (6, true), (7, true), (8, true), (9, true), (10, true), (11, true), (12, true)], [0, 1, 0, 0, 8, 24, 4, 68, 252, 508, 1020, 2047, 4095], none), (15, [(0, true), (1, true), (2, true), (3, true), (4, true), (5, true), (6, true), (7, true), (8, true), (9, true), (10, true), (11, true), (12, false)], [0, 0, 2, 6, 1, 17, 63, 127, 255, 1, 513, 2047, 4095], none), (16, [(0, true), (1, true), (2, true), (4, true), (5, true), (6, true), (7, true), (8, true), (3, false), (9, false), (10, false), (11, true), (12, true)], [0, 1, 3, 7, 0, 0, 0, 0, 128, 463, 1023, 2047, 4095], none)]),
  (53, [(1, [(0, true), (1, true), (2, true), (3, true), (4, false), (5, true), (6, true), (7, true), (8, true), (9, true), (10, true), (11, true), (12, true), (13, true), (14, true), (15, true), (16, true), (17, true), (18, true), (19, true), (20, true), (21, true)], [0, 1, 3, 7, 15, 31, 63, 127, 255, 511, 255, 1279, 3327, 7423, 16383, 32767, 65535, 131071, 262143, 524287, 1048575, 2097151], none), (4, [(0, true), (1, true), (2, true), (3, true), (4, true), (5, true), (6, true), (7, true), (8, true), (9, false), (10, false), (11, true)], [0, 1, 3, 7, 0, 31, 63, 127, 127, 0, 767, 2047], none), (7, [(0, true), (1, true), (2, true), (3, true), (4, true), (5, true), (6, true), (7, true), (8, false)], [0, 1, 3, 7, 0, 0, 32, 96, 255], none)]),
  (65, [(2, [(0, true), (1, true), (2, true), (3, true), (4, true), (5, true), (6, true), (7, true), (8, true), (9, true), (10, true), (11, true), (12, true), (13, true), (14, true), (15, true), (16, true), (17, true), (18, true), (19, true), (20, true), (21, true), (22, true), (23, true), (24, true), (25, true), (26, true), (27, true), (28, true), (29, true), (30, true), (31, true), (32, true)], [0, 1, 3, 7, 15, 7, 39, 103, 231, 487, 999, 2047, 4095, 8191, 16383, 32767, 65535, 131071, 262143, 524287, 1048575, 524287, 4194303, 8388607, 16777215, 33554431, 67108863, 33554431, 167772159, 436207615, 973078527, 2147483647, 4294967295], none), (3, [(0, true), (1, true), (2, false), (3, true)], [0, 0, 3, 7], none), (5, [(0, true), (1, true), (2, true), (3, true), (4, true), (5, true), (6, true), (7, false), (8, true), (9, true)], [0, 1, 3, 7, 15, 31, 7, 71, 255, 511], none), (6, [(0, true), (1, true), (2, false), (3, true)], [0, 0, 3, 7], none), (13, [(0, true), (1, true), (2, false), (3, true)], [0, 0, 3, 7], none), (22, [(0, true), (1, true), (2, false), (3, true)], [0, 0, 3, 7], none), (24, [(0, true), (1, true), (2, true), (3, false), (4, true)], [0, 0, 1, 7, 15], none)]),
  (76, [(7, [(0, true), (1, true), (2, true), (3, true), (4, true), (5, true), (6, true), (7, true), (8, true)], [0, 0, 2, 6, 1, 17, 63, 127, 255], none), (11, [(0, true), (1, true), (2, true), (3, true), (4, true), (5, true), (6, true), (7, true), (8, true), (9, true), (10, true), (11, true), (12, true), (13, true), (14, true), (15, true), (16, true), (17, true), (18, false), (19, true), (20, true)], [0, 1, 0, 4, 15, 31, 63, 127, 255, 511, 1023, 1023, 3071, 8191, 16383, 32767, 1023, 66559, 262143, 524287, 1048575], none), (14, [(0, true), (1, true), (2, true), (3, false), (4, false), (5, true)], [0, 1, 0, 4, 15, 31], none)]),
  (78, [(1, [(0, true), (1, true), (2, true), (3, true), (4, true), (5, true), (6, true), (7, true), (8, true), (9, true), (10, true), (11, true), (12, true), (13, true), (14, true), (15, true), (16, true), (17, true), (18, true), (19, true), (20, true), (21, true), (22, true), (23, true), (24, true), (25, true), (26, true), (27, true), (28, true), (29, true)], [0, 1, 3, 7, 15, 31, 63, 127, 255, 511, 1023, 2047, 4095, 8191, 16383, 32767, 65535, 131071, 262143, 524287, 1048575, 2097151, 524287, 8388607, 16777215, 524287, 34078719, 101187583, 268435455, 536870911], none)]),
  (80, [(1, [(0, true), (1, true), (2, true), (3, true), (4, true), (5, true), (6, true), (7, true)], [0, 1, 0, 4, 12, 28, 63, 127], none)]),
  (83, [(2, [(0, true), (2, true), (1, false), (3, false), (4, false), (5, false)], [0, 1, 0, 7, 15, 31], none)]),
  (87, [(1, [(0, true), (1, true), (2, true), (4, true), (5, true), (7, true), (8, true), (9, true), (3, false), (6, false), (10, false), (11, true)], [0, 0, 2, 7, 0, 16, 63, 0, 128, 384, 1023, 2047], none)]),
  (88, [(2, [(0, true), (1, true), (2, true), (4, true), (5, true), (6, true), (3, false), (7, false), (8, true)], [0, 0, 2, 7, 0, 16, 48, 127, 255], none)]),
  (93, [(1, [(0, true), (1, true), (2, true), (4, true), (5, true), (3, false), (6, false), (7, true)], [0, 0, 2, 7, 0, 16, 63, 127], none)]),
  (97, [(1, [(0, true), (1, true), (2, true), (4, true), (5, true), (6, true), (7, true), (3, false), (8, false), (9, false), (10, true)], [0, 0, 2, 7, 0, 16, 48, 112, 240, 511, 1023], some 8), (5, [(0, true), (1, true), (2, true), (3, true), (6, true), (7, true), (4, false), (5, false), (8, false), (9, true)], [0, 0, 2, 6, 14, 31, 0, 64, 255, 511], none)]),
  (98, [(4, [(0, true), (1, true), (2, true), (3, true), (4, true), (5, true), (8, true), (6, false), (7, true), (9, false), (10, true), (11, false), (12, false), (13, true), (14, true), (15, false)], [0, 0, 2, 6, 14, 0, 32, 96, 0, 352, 992, 2016, 4094, 8191, 16383, 32767], none)]),
  (101, [(1, [(0, true), (1, true), (2, true), (4, true), (5, true), (3, false), (6, false), (7, true)], [0, 0, 2, 7, 0, 16, 63, 127], none)]),
  (103, [(7, [(1, true), (2, true), (3, true), (6, true), (7, true), (8, true), (9, true), (12, true), (13, true), (0, false), (4, true), (5, true), (10, false), (11, false), (14, false), (15, true)], [0, 0, 2, 6, 15, 31, 0, 0, 128, 384, 896, 1985, 0, 4096, 16383, 32767], some 10)]),
  (106, [(8, [(0, true), (1, true), (2, false), (3, false), (4, true), (5, true)], [0, 0, 2, 7, 15, 31], none)]),
  (112, [(1, [(0, true), (1, false), (2, true), (3, true), (4, true), (5, true), (6, true), (7, true), (8, true), (9, true), (10, true), (11, true)], [0, 1, 3, 7, 15, 31, 15, 79, 207, 463, 1023, 2047], none)]),
  (113, [(1, [(0, true), (1, false), (2, true), (3, true), (4, true), (5, true), (6, true), (7, true), (9, true), (10, true), (8, false), (11, false), (12, true), (13, true)], [0, 1, 3, 7, 15, 7, 39, 7, 135, 7, 519, 2047, 4095, 8191], none)]),
  (117, [(1, [(1, true), (2, true), (0, false), (3, true), (4, true), (5, true), (6, true), (7, false), (8, false), (9, true)], [0, 0, 2, 7, 15, 31, 31, 0, 191, 511], some 7), (5, [(0, true), (1, true), (2, true), (3, true), (4, true), (5, false), (6, false), (7, false)], [0, 1, 0, 4, 0, 28, 60, 127], none)]),
  (119, [(4, [(0, true), (1, true), (2, true), (3, true), (4, true), (5, true), (6, true), (7, true), (8, true), (9, true), (10, true), (11, true), (12, true), (13, true), (14, true), (15, true), (16, true), (17, true), (18, true), (19, true), (20, false), (21, false), (22, true), (23, false)], [0, 1, 3, 7, 0, 16, 48, 0, 128, 384, 896, 0, 2048, 6144, 16256, 32640, 0, 0, 131072, 458752, 983040, 2097024, 4194303, 8388607], none)]),
  (120, [(2, [(0, true), (1, true), (3, true), (4, true), (2, false), (5, true), (6, true), (7, true), (8, true), (9, false), (10, true), (11, true)], [0, 0, 3, 0, 8, 31, 63, 127, 127, 511, 1023, 2047], none), (13, [(0, true), (1, true), (2, true), (3, true), (4, true), (5, true), (6, true), (7, true), (8, true), (9, true), (10, true), (11, true), (12, true)], [0, 1, 3, 7, 0, 31, 63, 127, 255, 0, 1023, 2047, 0], none)]),
  (121, [(3, [(0, true), (1, true), (2, true), (3, true), (4, true), (5, true), (6, true), (7, true), (8, true), (11, true), (9, false), (10, true), (12, true), (13, true), (14, true), (15, true), (16, true), (17, true), (18, true), (19, true), (20, true), (21, true), (22, true), (23, false), (24, true), (25, true)], [0, 1, 3, 7, 15, 31, 63, 7, 7, 391, 903, 7, 3975, 8071, 16383, 32767, 65535, 131071, 131071, 131071, 655359, 1703935, 3801087, 8388607, 16777215, 33554431], none)]),
  (122, [(1, [(0, true), (1, true), (2, true), (3, true), (4, true), (5, true), (6, false), (7, true), (8, false)], [0, 1, 3, 0, 8, 24, 0, 71, 255], none), (3, [(0, true), (1, true), (3, true), (4, true), (2, false), (5, true), (6, true), (7, true), (8, true), (9, true), (10, true), (11, true), (12, false), (13, true), (14, true), (15, true), (16, true), (17, true), (18, true), (19, true), (20, true), (21, true), (22, true), (23, true), (24, true), (25, true), (26, true), (27, true), (28, true), (29, true), (30, false), (31, true), (32, true)], [0, 0, 3, 0, 8, 31, 63, 127, 255, 511, 1023, 2047, 4095, 8191, 16383, 32767, 65535, 131071, 262143, 524287, 65535, 1114111, 65535, 4259839, 15794175, 33554431, 67108863, 134217727, 268435455, 268435455, 1073741823, 2147483647, 4294967295], none), (6, [(0, true), (1, true), (2, true), (3, true), (4, true), (5, true), (6, true), (7, false), (8, false), (9, true), (10, true), (11, false)], [0, 0, 2, 6, 14, 0, 32, 96, 254, 511, 1023, 2047], none)]),
  (123, [(4, [(0, true), (1, true), (2, true), (3, true), (4, true), (5, true), (6, true), (7, true), (8, true), (9, true), (10, true), (11, true), (12, true), (13, true), (14, true), (15, true), (16, true), (17, true), (18, true), (19, true), (20, false), (21, false), (22, true), (23, true)], [0, 0, 2, 7, 15, 31, 63, 127, 255, 511, 511, 511, 2559, 6655, 511, 511, 33279, 511, 229887, 492031, 1032703, 2097151, 4194303, 8388607], none)]),
  (139, [(1, [(0, true), (1, true), (2, true), (3, true), (4, true), (5, true), (6, true), (7, true)], [0, 1, 0, 4, 12, 28, 63, 127], none)]),
  (142, [(1, [(0, true), (1, false), (2, true), (3, true), (4, false), (5, true), (6, true), (7, true), (8, true), (9, true), (10, true), (11, true), (12, true), (13, true), (14, true), (15, true), (16, false), (17, false), (18, true), (19, true)], [0, 1, 3, 7, 15, 31, 63, 127, 255, 511, 1023, 2047, 4095, 4095, 4095, 4095, 61439, 131071, 262143, 524287], none)]),
  (146, [(4, [(0, true), (1, true), (2, true), (3, true), (4, true), (5, true), (6, true), (7, true), (8, true), (9, true), (10, true), (11, true), (12, true), (13, true), (14, true), (15, true), (16, true), (17, true), (18, true), (19, true), (20, true), (21, true), (22, true), (23, true), (24, true), (25, false), (26, true), (27, true)], [0, 1, 0, 4, 12, 0, 60, 124, 255, 511, 1023, 2047, 4095, 8191, 1023, 17407, 50175, 131071, 262143, 1023, 525311, 1573887, 1023, 4195327, 16253951, 33554431, 67108863, 134217727], none), (7, [(0, true), (1, true), (2, true), (3, true), (4, true), (5, true), (6, true), (7, true), (8, true), (9, true), (10, true), (11, true)], [0, 1, 3, 7, 0, 16, 48, 112, 240, 496, 1023, 2047], none)]),
  (149, [(1, [(0, true), (1, true), (2, true), (3, true), (4, true), (5, true), (6, false), (7, false), (8, true), (9, true), (10, false)], [0, 0, 2, 6, 14, 0, 32, 126, 255, 511, 1023], none), (2, [(0, true), (1, true), (2, true), (3, true), (4, true), (5, true), (6, true), (7, true), (8, true), (9, false)], [0, 1, 3, 7, 0, 16, 0, 64, 240, 511], none)]),
  (150, [(1, [(0, true), (1, false), (2, true), (3, true), (4, true), (5, true), (6, false), (7, false), (8, true), (9, true)], [0, 1, 3, 7, 15, 7, 39, 127, 255, 511], none)]),
  (155, [(3, [(0, true), (1, true), (2, true), (3, true), (4, true), (5, true), (6, true), (7, true), (8, true), (9, false), (10, true)], [0, 1, 3, 0, 8, 24, 56, 127, 0, 511, 1023], none), (7, [(0, true), (1, true), (2, true), (3, true), (4, true), (5, true), (6, true), (7, true), (8, true), (9, true), (10, false), (11, true), (12, true), (13, false), (14, true), (15, true), (16, false)], [0, 0, 0, 4, 12, 28, 0, 64, 192, 448, 1020, 2045, 4093, 8189, 16383, 32767, 65535], none)]),
  (159, [(3, [(0, true), (2, true), (3, true), (4, true), (5, true), (6, true), (7, true), (8, true), (1, false), (9, false), (10, true)], [0, 1, 0, 0, 8, 0, 32, 96, 252, 511, 1023], none)]),
  (161, [(5, [(0, true), (1, true), (2, true), (3, true), (4, true), (5, true), (6, true), (7, true), (8, true), (9, true)], [0, 0, 2, 6, 0, 16, 48, 126, 255, 511], none)]),
  (162, [(6, [(0, true), (1, true), (2, true), (3, true), (4, true), (5, true), (6, true), (7, true), (8, true)], [0, 0, 3, 7, 0, 0, 48, 112, 255], none)]),
  (167, [(1, [(0, true), (1, true), (2, true), (3, true), (4, true), (5, true), (6, true), (7, true), (8, true), (9, true), (10, true), (11, true), (12, true)], [0, 1, 3, 7, 0, 16, 48, 112, 240, 496, 1023, 2047, 4095], none)]),
  (168, [(1, [(0, true), (1, true), (3, true), (2, false), (4, false), (5, false), (6, false)], [0, 1, 3, 0, 15, 31, 63], none)]),
  (172, [(1, [(0, true), (1, true), (2, true), (3, true), (4, true), (5, true), (6, true), (7, true), (8, true), (9, true), (10, true), (11, true), (12, true), (13, true), (14, true), (15, true), (16, true), (17, true), (18, true), (19, true), (20, true), (21, true), (22, true), (23, true)], [0, 1, 0, 4, 0, 16, 0, 64, 0, 256, 0, 1024, 0, 4096, 0, 16384, 3, 65551, 196671, 459007, 984063, 2035711, 4145151, 8388607], none), (5, [(0, true), (1, true), (3, true), (6, true), (10, true), (11, true), (12, true), (13, true), (14, true), (15, true), (16, true), (17, true), (19, true), (20, true), (21, true), (23, true), (2, false), (4, false), (5, true), (7, false), (8, true), (9, true), (18, true), (22, true), (24, true), (25, true)], [0, 0, 2, 0, 14, 30, 0, 94, 254, 511, 0, 0, 3072, 0, 8192, 0, 57344, 130048, 262143, 0, 524288, 1572864, 4194303, 0, 16777215, 33554431], none)]),
  (174, [(4, [(0, true), (1, true), (2, true), (3, true), (4, true), (5, true)], [0, 0, 0, 6, 14, 31], none)]),
  (179, [(13, [(0, true), (1, true), (2, true), (3, true), (4, true), (5, true), (6, true), (7, true), (8, true), (9, true)], [0, 1, 3, 7, 0, 16, 48, 112, 15, 511], none), (14, [(0, true), (1, true), (2, true), (3, true), (4, true), (5, true), (7, true), (10, true), (11, true), (14, true), (15, true), (16, true), (17, true), (19, true), (21, true), (24, true), (25, true), (6, false), (8, false), (9, true), (12, true), (13, true), (18, true), (20, false), (22, false), (23, true), (26, true), (27, true), (28, true), (29, false)], [0, 0, 2, 6, 14, 0, 32, 0, 224, 480, 0, 1024, 4064, 8190, 0, 16384, 49152, 114688, 262142, 0, 524768, 0, 3670496, 7864800, 0, 16777216, 66585056, 134217726, 268435455, 536870911], none)])]
def plans : Ord := fun f id => match look f planL with
  | some l => look id l
  | none => none
def okF (fn : Func) (l : List (Nat × Sched)) : Bool := match fn.body with
  | some b => (draws b).all fun x => match look x.1 l with
    | some p => planOK x.2 p.2.1 (treeOf p)
    | none => true
  | none => true
theorem all_ok : (planL.all fun e => match Tryz.prog.funcs[e.1]? with
  | some fn => okF fn e.2
  | none => true) = true := by kernel_rfl
theorem hpl : ∀ g fn b, Tryz.prog.funcs[g]? = some fn → fn.body = some b → OKd plans g b := by
  intro g fn b hf hb x hx p hp
  unfold plans at hp
  split at hp
  · rename_i l hl
    have h1 := List.all_eq_true.1 all_ok (g, l) (look_mem hl)
    simp only [hf] at h1
    unfold okF at h1
    rw [hb] at h1
    have h2 := List.all_eq_true.1 h1 x hx
    rw [hp] at h2
    exact h2
  · cases hp
theorem mix : Tryz.prog.follows .mixedOrders = true := by kernel_rfl
theorem gnone (w0 : World) (L : List Asn) : GOK (fun _ => none) w0 L := fun _ _ _ _ g vs h => by cases h
/-- What is not walked: slices.Grow. -/
noncomputable def X0 : Specs := fun g => bif Nat.beq g 128 then some (growSpec 1) else none
theorem x0_ok {G : Nat → Option (List Value)} : SpecsOK Tryz.prog G X0 := by
  intro g f h avs m r m' ν vs w w0 L hf _ hv hs
  unfold X0 at h
  cases hb : Nat.beq g 128 with
  | false => rw [hb] at h; cases h
  | true =>
    rw [hb] at h
    have := Nat.eq_of_beq_eq_true hb
    subst this
    simp only [cond_true, Option.some.injEq] at h
    subst h
    exact grow_ok hf hv hs
noncomputable abbrev run0 (n : Nat) (X : Specs) : Rec := exec Tryz.prog (fun _ => none) plans X n
/-- A call whose result bears no name. -/
theorem ev_call {X : Specs} (hX : SpecsOK Tryz.prog (fun _ => none) X) (n : Nat) {f : FuncId} (hen : enters Tryz.prog f = true) {avs : List AV} {vs : List Value} {r : AV} {v : Value} (h : (callK Tryz.prog (fun _ => none) X (run0 n X) f avs ⟨.nil, 0⟩).map (·.1) = some r)
    (hv : vals (fun _ => none) avs = some vs) (hr : r.val (fun _ => none) = some v) {w w0 : World} {L : List Asn} (hs : St w0 L w) : Calls Tryz.prog f vs.toArray w (Ret fun rv w' => rv = v ∧ St w0 L w') := by
  cases hc : callK Tryz.prog (fun _ => none) X (run0 n X) f avs ⟨.nil, 0⟩ with
  | none => rw [hc] at h; cases h
  | some q =>
    obtain ⟨r', m'⟩ := q
    rw [hc] at h
    simp only [Option.map_some, Option.some.injEq] at h
    subst h
    refine Calls.ret (callK_sound hX hpl mix n hen hc (gnone w0 L) hv (Ev.St.start hs)) ?_
    rintro v' w' ⟨ν', k1, k2, k3⟩
    rw [AV.val_mono k1 _ hr] at k2
    cases k2
    exact ⟨rfl, k3.tail⟩
/-- A block, as the reckoner's first name. -/
noncomputable def M1 (l : List AV) : AM := ⟨Tr.nil.set 0 (some (.cells l)), 1⟩
def N1 (b : Nat) : Nu := fun k => if k = 0 then some (b, 0) else none
theorem m1_get (l : List AV) (k : Nat) : (M1 l).get k = if k = 0 then some (.cells l) else none := by
  show (Tr.nil.set 0 (some (Blk.cells l))).get k = _
  rw [Tr.get_set]
  split
  · rfl
  · rfl
theorem ofCel {b : Nat} {cs : Array Value} {T : TypeId} {w w0 : World} {L : List Asn} (hs : St w0 (Cel b cs T :: L) w) {l : List AV} (hl : vals (N1 b) l = some cs.toList) : St w0 (Mem (N1 b) (M1 l) :: L) w := by
  refine St.conv hs (fun hc => ?_) ?_
  · obtain ⟨fr, h1, h2⟩ := hc
    refine ⟨fun id hid => ?_, fun id blk hg => ?_, fun id id' blk blk' p p' hg hg' _ _ _ => ?_⟩
    · have : 1 ≤ id := hid
      unfold N1
      rw [if_neg (by omega)]
    · rw [m1_get] at hg
      split at hg
      · rename_i e
        subst e
        cases hg
        exact ⟨(b, 0), _, rfl, h1, cs.toList, T, fr, hl, by simp, by simpa using h2⟩
      · cases hg
    · rw [m1_get] at hg hg'
      split at hg
      · rename_i e
        split at hg'
        · rename_i e'
          rw [e, e']
        · cases hg'
      · cases hg
  · rintro b' ⟨id, blk, p, hg, hp, rfl⟩
    rw [m1_get] at hg
    split at hg
    · rename_i e
      subst e
      have : p = (b, 0) := (Option.some.inj hp).symm
      rw [this]
      rfl
    · cases hg
noncomputable def envA : List (Nat × AV) → AE
  | [] => .nil
  | (k, x) :: l => (envA l).set k (some x)
theorem fits_envA {ν : Nu} {N : Nat} {S : Env} {a : Act} (hf : Fits N S a) : ∀ (l : List (Nat × AV)), (∀ p ∈ l, ∃ v, p.2.val ν = some v ∧ S.get p.1 = some v) → FitsA [] ν N (envA l) a
  | [], _ => ⟨hf.defers, hf.size, fun k x h => by cases h⟩
  | (k, x) :: l, h => by
    have ih := fits_envA hf l fun p hp => h p (List.mem_cons_of_mem _ hp)
    refine ⟨hf.defers, hf.size, fun j y hy => ?_⟩
    simp only [envA] at hy
    rw [Tr.get_set] at hy
    split at hy
    · rename_i e
      subst e
      cases hy
      obtain ⟨v, h1, h2⟩ := h (j, x) (List.mem_cons_self ..)
      exact ⟨v, h1, hf.get h2⟩
    · exact ih.at_ j y hy
/-- The rest of a body, by the reckoner. -/
theorem ev_rest {X : Specs} (hX : SpecsOK Tryz.prog (fun _ => none) X) (n : Nat) (f : FuncId) {fn : Func} {φ : Value → World → Prop} {N t : Nat} {c b : Code} (hfn : Tryz.prog.funcs[f]? = some fn) (hb : fn.body = some b) (hd : ∀ x ∈ draws c, x ∈ draws b) (hr : fn.results = #[.tmp t]) {l : List (Nat × AV)} {m : AM} {v : Value} {r : AV}
    (h : (match run0 n X f N c (envA l) m with
      | some (.ret, S', _) => S'.get t
      | _ => none) = some r) (hv : r.val (fun _ => none) = some v) {S : Env} {ν : Nu} {w w0 : World} {L : List Asn} (hl : ∀ p ∈ l, ∃ v, p.2.val ν = some v ∧ S.get p.1 = some v) (hs : St w0 (Mem ν m :: L) w)
    (hk : ∀ w', St w0 L w' → φ v w') (hnr : noRF c = true := by kernel_rfl) : GoC Tryz.prog (bodyPost Tryz.prog fn (Ret φ)) N [] c S w := by
  intro a hf
  split at h
  · rename_i S' m' he
    have hdd : OKd plans f c := fun x hx => hpl f fn b hfn hb x (hd x hx)
    have hwp := (wpIn_wide (n := 0)).1 (exec_soundO hX hpl mix he hnr hdd (gnone w0 L) (fits_envA hf l hl) hs)
    refine wp_mono hwp fun e' a' w' hq => ?_
    obtain ⟨rfl, ν', k1, k2, k3⟩ := hq
    obtain ⟨u, h1, h2⟩ := k2.at_ t r h
    have h3 : u = v := by
      have := AV.val_mono (ν := fun _ => none) (ν' := ν') (fun id p hp => by cases hp) r hv
      rw [this] at h1
      exact (Option.some.inj h1).symm
    subst h3
    exact ⟨k2.defers, u, by rw [results_tmp hr, h2], hk w' k3.tail⟩
  · cases h
/-- What ratchet/sha.table holds. -/
def shaTab : List Int := [1116352408, 1899447441, 3049323471, 3921009573, 961987163, 1508970993, 2453635748, 2870763221, 3624381080, 310598401, 607225278, 1426881987, 1925078388, 2162078206, 2614888103, 3248222580, 3835390401, 4022224774, 264347078, 604807628, 770255983, 1249150122, 1555081692, 1996064986, 2554220882, 2821834349, 2952996808, 3210313671, 3336571891, 3584528711, 113926993, 338241895, 666307205, 773529912, 1294757372, 1396182291, 1695183700, 1986661051, 2177026350, 2456956037, 2730485921, 2820302411, 3259730800, 3345764771, 3516065817, 3600352804, 4094571909, 275423344, 430227734, 506948616, 659060556, 883997877, 958139571, 1322822218, 1537002063, 1747873779, 1955562222, 2024104815, 2227730452, 2361852424, 2428436474, 2756734187, 3204031479, 3329325298]
def tabG : Nat → Option (List Value) := fun g => bif Nat.beq g 0 then some (shaTab.map fun z => Value.int .u32 z) else none
theorem glob_of {W : World} (h : Lib.TabIs Tryz.prog W "ratchet/sha.table" .u32 shaTab) : Glob tabG W := by
  intro g vs hg i hi
  unfold tabG at hg
  cases hb : Nat.beq g 0 with
  | false => rw [hb] at hg; cases hg
  | true =>
    rw [hb] at hg
    have := Nat.eq_of_beq_eq_true hb
    subst this
    simp only [cond_true, Option.some.injEq] at hg
    subst hg
    have hi2 : i < shaTab.length := by simpa using hi
    rw [h.cell (by kernel_rfl) i hi2, List.getElem?_map, List.getD_eq_getElem?_getD, List.getElem?_eq_getElem hi2]
    rfl
theorem gok_base {W : World} (h : Glob tabG W) {L : List Asn} (hb : Base W ∈ L) : GOK tabG W L := by
  intro ν m w hs g vs hg i hi
  have h1 := h g vs hg i hi
  have h2 : ∀ k, k < W.heap.size → w.heap[k]? = W.heap[k]? := hs.holds _ (List.mem_cons_of_mem _ hb)
  have h3 : W.cell? ⟨g, i, none⟩ = some vs[i] := by rw [h1, List.getElem?_eq_getElem hi]
  have hlt : g < W.heap.size := by
    cases hx : W.heap[g]? with
    | none => simp [World.cell?, hx] at h3
    | some o => exact (Array.getElem?_eq_some_iff.1 hx).1
  rw [← h1]
  simp only [World.cell?, h2 g hlt]
/-- A call whose result bears no name. -/
theorem ev_callG {X : Specs} (hX : SpecsOK Tryz.prog tabG X) (n : Nat) {f : FuncId} (hen : enters Tryz.prog f = true) {avs : List AV} {vs : List Value} {r : AV} {v : Value} (h : (callK Tryz.prog tabG X (exec Tryz.prog tabG plans X n) f avs ⟨.nil, 0⟩).map (·.1) = some r)
    (hv : vals (fun _ => none) avs = some vs) (hr : r.val (fun _ => none) = some v) {w w0 : World} {L : List Asn} (hG : GOK tabG w0 L) (hs : St w0 L w) : Calls Tryz.prog f vs.toArray w (Ret fun rv w' => rv = v ∧ St w0 L w') := by
  cases hc : callK Tryz.prog tabG X (exec Tryz.prog tabG plans X n) f avs ⟨.nil, 0⟩ with
  | none => rw [hc] at h; cases h
  | some q =>
    obtain ⟨r', m'⟩ := q
    rw [hc] at h
    simp only [Option.map_some, Option.some.injEq] at h
    subst h
    refine Calls.ret (callK_sound hX hpl mix n hen hc hG hv (Ev.St.start hs)) ?_
    rintro v' w' ⟨ν', k1, k2, k3⟩
    rw [AV.val_mono k1 _ hr] at k2
    cases k2
    exact ⟨rfl, k3.tail⟩
/-! Calls of plain values, of which the result is known: a table. -/
def w8 (l : List Nat) : AV := .agg (l.map (AV.num .u32))
def b64 (l : List Nat) : AV := .agg (l.map (AV.num .u8))
def Known (g : FuncId) (e : List AV × AV) : Prop := (callK Tryz.prog tabG X0 (execD Tryz.prog tabG plans X0 100000) g e.1 ⟨.nil, 0⟩).map (·.1) = some e.2 ∧ (vals (fun _ => none) e.1).isSome = true ∧ (e.2.val (fun _ => none)).isSome = true
def lookB (ax : List AV) : List (List AV × AV) → Option AV
  | [] => none
  | e :: l => bif sameAs ax e.1 then some e.2 else lookB ax l
theorem lookB_mem {ax : List AV} {r : AV} : ∀ {l : List (List AV × AV)}, lookB ax l = some r → (ax, r) ∈ l
  | e :: l, h => by
    simp only [lookB] at h
    cases hb : sameAs ax e.1 with
    | true =>
      rw [hb] at h
      simp only [cond_true, Option.some.injEq] at h
      rw [sameAs_eq hb, ← h]
      exact List.mem_cons_self ..
    | false => rw [hb] at h; exact List.mem_cons_of_mem _ (lookB_mem h)
theorem known_ok {g : FuncId} (hen : enters Tryz.prog g = true) {e : List AV × AV} (hk : Known g e) {ν : Nu} {m : AM} {vs : List Value} {w w0 : World} {L : List Asn} (hG : GOK tabG w0 L) (hv : vals ν e.1 = some vs) (hs : St w0 (Mem ν m :: L) w) :
    Calls Tryz.prog g vs.toArray w (Ret fun v w' => ∃ ν', ν.le ν' ∧ e.2.val ν' = some v ∧ St w0 (Mem ν' m :: L) w') := by
  obtain ⟨h1, h2, h3⟩ := hk
  rw [execD_eq] at h1
  have hle : Nu.le (fun _ => none) ν := fun id p hp => by cases hp
  cases hc : vals (fun _ => none) e.1 with
  | none => rw [hc] at h2; cases h2
  | some vs0 =>
    have := vals_mono hle _ hc
    rw [hv] at this
    cases this
    cases hr : e.2.val (fun _ => none) with
    | none => rw [hr] at h3; cases h3
    | some v0 =>
      refine Calls.ret (ev_callG x0_ok 100000 hen h1 hc hr (hG.frame _) hs) ?_
      rintro v w' ⟨rfl, k2⟩
      exact ⟨ν, Nu.le_refl ν, AV.val_mono hle _ hr, k2⟩
def b8 (l : List Nat) : List AV := l.map (AV.num .u8)
def z8 (n : Nat) : List AV := List.replicate n (AV.num .u8 0)
def rp (n : Nat) (a : AV) : List AV := List.replicate n a
def ap (a b : List AV) : List AV := a ++ b
end Go.Proofs.YthekpemobnajhaaGreatDoor
