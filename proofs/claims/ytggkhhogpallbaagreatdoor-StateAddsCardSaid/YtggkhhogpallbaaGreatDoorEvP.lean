/-
  The schedules of regions that draw their order; a call by the reckoner. Conditions: none; where it is told, what ratchet/sha.table holds.
-/
import Derived.Test.YtggkhhogpallbaaGreatDoorEvR
import Derived.Test.YtggkhhogpallbaaGreatDoorEvZ
import Derived.Test.YtggkhhogpallbaaGreatDoorProg
import Derived.Test.YtggkhhogpallbaaGreatDoorSxT
import Derived.Lib.LaidTab
namespace Go.Proofs.YtggkhhogpallbaaGreatDoor
open Go.RowKit Go.Sx Go.Ev
set_option linter.unusedVariables false
set_option linter.unusedSimpArgs false
set_option linter.unnecessarySimpa false
set_option maxRecDepth 100000
def look {α : Type} (id : Nat) : List (Nat × α) → Option α
  | [] => none
  | e :: l => bif Nat.beq e.1 id then some e.2 else look id l
theorem look_mem {α : Type} {id : Nat} {x : α} : ∀ {l : List (Nat × α)}, look id l = some x → (id, x) ∈ l
  | e :: l, h => by
    simp only [look] at h
    cases hb : Nat.beq e.1 id with
    | true =>
      rw [hb] at h
      have := Nat.eq_of_beq_eq_true hb
      simp only [cond_true, Option.some.injEq] at h
      subst this h
      exact List.mem_cons_self ..
    | false => rw [hb] at h; exact List.mem_cons_of_mem _ (look_mem h)
def planL : List (Nat × List (Nat × Sched)) := [(3, [(17, [(0, true), (2, true), (3, true), (4, true), (1, false), (5, true), (6, true), (7, true), (9, true), (10, true), (11, true), (12, true), (8, false), (13, true), (14, true), (15, true), (16, true), (17, true), (18, true), (19, true), (20, true), (21, true), (22, true), (23, true), (24, true), (25, true), (26, true), (27, true), (28, true), (29, true), (30, true), (31, true), (32, true), (33, true), (34, true), (35, true), (36, true), (37, false), (38, true), (39, true)], [0, 1, 0, 4, 12, 31, 63, 127, 255, 127, 639, 1663, 3711, 8191, 16383, 32767, 65535, 131071, 262143, 524287, 1048575, 2097151, 4194303, 2097151, 10485759, 33554431, 67108863, 134217727, 268435455, 536870911, 1073741823, 268435455, 2415919103, 6710886399, 17179869183, 34359738367, 68719476735, 137438953471, 274877906943, 549755813887], none)]),
  (7, [(4, [(0, true), (1, true), (2, true), (3, true), (4, true), (5, true), (6, true), (7, true), (8, true), (9, false), (10, true), (11, true), (12, false), (13, true)], [0, 1, 3, 7, 0, 16, 48, 112, 0, 511, 1023, 1023, 4095, 8191], none)]),
  (8, [(5, [(0, true), (1, true), (2, true), (3, true), (4, true), (5, false)], [0, 0, 2, 6, 14, 31], none)]),
  (10, [(6, [(0, true), (1, true), (2, true), (3, true), (4, true), (5, true), (6, true), (7, true), (8, true), (9, true), (10, true), (11, true), (12, true), (13, true), (14, true), (15, true), (16, true), (17, true), (18, true), (19, true), (20, true), (21, true), (22, true), (23, true), (24, true), (25, true), (26, true), (27, true)], [0, 0, 3, 7, 15, 31, 0, 0, 192, 448, 960, 1984, 4095, 0, 0, 24576, 57344, 122880, 253952, 524287, 0, 0, 3145728, 7340032, 15728640, 32505856, 67108863, 134217727], none)]),
  (16, [(7, [(0, true), (1, true), (2, true), (3, true), (4, true), (5, true), (6, true), (7, true)], [0, 0, 2, 6, 1, 17, 63, 127], none), (8, [(0, true), (1, true), (2, true), (3, true), (4, true), (5, true), (6, true), (7, true)], [0, 1, 0, 4, 12, 28, 63, 127], none), (10, [(0, true), (1, true), (2, true), (3, true), (4, true), (5, true), (6, true), (7, true)], [0, 1, 0, 4, 12, 28, 63, 127], none), (12, [(0, true), (1, true), (2, true), (3, true), (4, true), (5, true), (6, false), (7, true), (8, true), (9, false)], [0, 0, 2, 0, 0, 16, 56, 126, 255, 511], none)]),
  (28, [(8, [(0, true), (1, true), (2, true), (3, true), (4, true), (5, true), (6, true), (7, true), (8, true), (9, true), (10, false), (11, true), (12, false), (13, true)], [0, 1, 3, 7, 0, 16, 0, 64, 0, 256, 63, 1087, 3327, 8191], none)]),
  (32, [(5, [(0, true), (1, true), (2, true), (3, true), (4, true), (5, true), (6, true), (7, true), (8, true), (9, true), (10, true), (11, true)], [0, 1, 3, 7, 0, 16, 63, 127, 255, 255, 511, 2047], none), (8, [(0, true), (1, true), (3, true), (4, true), (5, true), (2, false), (6, false), (7, false)], [0, 1, 3, 0, 0, 0, 63, 127], none)]),
  (47, [(10, [(0, true), (1, true), (2, true), (3, true), (4, true), (5, false), (6, true), (7, false)], [0, 1, 0, 4, 3, 19, 63, 127], none)]),
  (50, [(17, [(0, true), (1, true), (2, true), (3, true), (4, true), (5, true), (6, true), (7, true), (8, true), (9, true), (10, true), (11, true), (12, true), (13, false), (14, true), (15, true), (16, true)], [0, 1, 3, 7, 7, 7, 39, 119, 247, 7, 7, 1543, 3591, 8191, 16383, 32767, 65535], none)]),
  (55, [(3, [(0, true), (1, true), (2, true), (3, true), (4, true), (5, true), (6, true), (7, true), (8, false)], [0, 1, 3, 7, 0, 16, 0, 64, 255], none)]),
  (56, [(1, [(0, true), (1, true), (2, true), (3, true), (4, true), (5, true), (6, false)], [0, 1, 3, 7, 0, 16, 63], none)]),
  (57, [(3, [(0, true), (1, true), (2, true), (3, true), (4, true), (5, true), (6, true), (7, true), (8, false)], [0, 1, 3, 7, 0, 16, 0, 64, 255], none)]),
  (58, [(2, [(0, true), (1, true), (2, true), (3, true), (4, true), (5, true), (6, true), (7, true), (8, true), (9, true), (10, true), (11, true)], [0, 1, 3, 7, 0, 16, 63, 127, 255, 255, 511, 2047], none), (14, [(0, true), (1, true), (2, true), (3, true), (4, true), (5, true), (6, true), (7, true), (8, true), (9, true), (10, true), (11, true), (12, true), (13, true), (14, true), (15, true), (16, true), (17, false), (18, false), (19, true), (20, false), (21, false), (22, true), (23, false)], [0, 1, 3, 7, 0, 16, 0, 64, 192, 448, 0, 1024, 0, 0, 0, 16384, 57344, 122880, 254975, 517119, 1045503, 2097151, 4194303, 8388607], none)]),
  (59, [(4, [(0, true), (1, true), (2, true), (3, true), (4, true), (5, true), (6, true), (7, true), (8, true), (9, true), (10, true), (11, true), (12, true), (13, true), (14, false), (15, true), (16, true)], [0, 0, 3, 7, 15, 15, 15, 111, 239, 15, 15, 1039, 3599, 7695, 16383, 32767, 65535], none), (6, [(0, true), (1, true), (2, true), (3, true), (4, true), (5, true), (6, true), (7, true), (8, true), (9, true), (10, true), (11, true), (12, true), (13, true), (14, true), (15, false), (16, true), (17, false)], [0, 0, 0, 0, 8, 0, 0, 64, 224, 480, 0, 0, 3072, 7168, 16355, 32739, 65535, 131071], none)]),
  (60, [(10, [(0, true), (1, true), (2, true), (3, true), (4, true), (5, true), (6, true), (7, true), (8, true), (9, true), (10, true), (11, true), (12, true), (13, true), (14, true), (15, true), (16, true), (17, false), (18, true), (19, false)], [0, 0, 0, 0, 0, 24, 0, 0, 0, 384, 960, 1984, 0, 0, 12288, 28672, 65475, 131011, 262143, 524287], none)]),
  (61, [(10, [(0, true), (1, true), (2, true), (3, true), (4, true), (5, true), (6, true), (7, true), (8, true), (9, true), (10, true), (11, true), (12, true), (13, true), (14, true), (15, true), (16, true), (17, false), (18, true), (19, false)], [0, 0, 0, 0, 0, 24, 0, 0, 0, 384, 960, 1984, 0, 0, 12288, 28672, 65475, 131011, 262143, 524287], none)]),
  (63, [(3, [(0, true), (1, true), (2, true), (3, true), (4, true), (5, true), (6, true), (7, true), (8, true), (9, true), (10, true), (11, true), (12, true), (13, false), (14, true), (15, false)], [0, 0, 0, 0, 0, 0, 48, 112, 0, 0, 768, 1792, 4083, 8179, 16383, 32767], none)]),
  (64, [(5, [(0, true), (1, true), (2, true), (3, true), (4, true), (5, true), (6, true), (7, true), (8, true), (9, true), (10, true), (11, true), (12, true), (13, true), (14, false), (15, true), (16, true), (17, true)], [0, 0, 3, 7, 15, 15, 15, 111, 239, 15, 15, 1039, 3599, 7695, 16383, 32767, 65535, 131071], none), (11, [(0, true), (1, true), (2, true), (3, true), (4, true), (5, true), (6, true), (7, true), (8, true), (9, true), (10, true), (11, true), (12, true), (13, true), (14, true), (15, false), (16, true), (17, false)], [0, 0, 0, 0, 8, 0, 0, 64, 224, 480, 0, 0, 3072, 7168, 16355, 32739, 65535, 131071], none), (16, [(0, true), (1, true), (2, true), (3, true), (4, true), (5, true), (6, true), (7, true), (8, true), (9, true), (10, false), (11, true), (12, true)], [0, 0, 0, 6, 14, 0, 0, 64, 224, 480, 1023, 2047, 4095], none), (17, [(0, true), (1, true), (2, true), (3, true), (4, true), (5, true), (6, true), (7, true), (8, true), (9, true), (10, true), (11, true), (12, true), (13, true), (14, true), (15, false), (16, true), (17, false)], [0, 0, 0, 0, 8, 0, 0, 64, 224, 480, 0, 0, 3072, 7168, 16355, 32739, 65535, 131071], none), (22, [(0, true), (1, true), (2, true), (3, true), (4, true), (5, true), (6, true), (7, true), (8, true), (9, true), (10, false), (11, true), (12, true)], [0, 0, 0, 6, 14, 0, 0, 64, 224, 480, 1023, 2047, 4095], none), (23, [(0, true), (1, true), (2, true), (3, true), (4, true), (5, true), (6, true), (7, true), (8, true), (9, true), (10, true), (11, true), (12, true), (13, true), (14, true), (15, false), (16, true), (17, false)], [0, 0, 0, 0, 8, 0, 0, 64, 224, 480, 0, 0, 3072, 7168, 16355, 32739, 65535, 131071], none)]),
  (65, [(1, [(0, true), (1, true), (2, true), (3, true), (4, true), (5, true), (6, true), (7, true), (8, true), (9, true), (10, true), (11, true), (12, true), (13, false), (14, true), (15, false)], [0, 0, 0, 0, 0, 0, 48, 112, 0, 0, 768, 1792, 4083, 8179, 16383, 32767], none), (3, [(0, true), (1, true), (2, true), (3, true), (4, true), (5, true), (6, true), (7, true), (8, true), (9, true), (10, true), (11, true), (12, true), (13, false), (14, true), (15, true), (16, true)], [0, 0, 3, 7, 15, 15, 15, 111, 239, 15, 15, 1551, 3599, 8191, 16383, 32767, 65535], none), (5, [(0, true), (1, true), (2, true), (3, true), (4, true), (5, true), (6, true), (7, true), (8, true), (9, true), (10, true), (11, true), (12, true), (13, false), (14, true), (15, true)], [0, 0, 3, 7, 15, 15, 15, 111, 239, 15, 15, 1551, 3599, 8191, 16383, 32767], none), (8, [(0, true), (1, true), (2, true), (3, true), (4, true), (5, true), (6, true), (7, true), (8, true), (9, true), (10, true), (11, true), (12, true), (13, false), (14, true), (15, false)], [0, 0, 0, 0, 0, 0, 48, 112, 0, 0, 768, 1792, 4083, 8179, 16383, 32767], none)]),
  (66, [(1, [(0, true), (1, true), (2, true), (3, true), (4, true), (5, true), (6, true), (7, true), (8, true), (9, true), (10, true), (11, true), (12, true), (13, false), (14, true), (15, false)], [0, 0, 0, 0, 0, 0, 48, 112, 0, 0, 768, 1792, 4083, 8179, 16383, 32767], none), (3, [(0, true), (1, true), (2, true), (3, true), (4, true), (5, true), (6, true), (7, true), (8, true), (9, true), (10, true), (11, true), (12, true), (13, false), (14, true), (15, true)], [0, 0, 3, 7, 15, 15, 15, 111, 239, 15, 15, 1551, 3599, 8191, 16383, 32767], none), (5, [(0, true), (1, true), (2, true), (3, true), (4, true), (5, true), (6, true), (7, true), (8, true), (9, true), (10, true), (11, true), (12, true), (13, false), (14, true), (15, true), (16, true)], [0, 0, 3, 7, 15, 15, 15, 111, 239, 15, 15, 1551, 3599, 8191, 16383, 32767, 65535], none), (8, [(0, true), (1, true), (2, true), (3, true), (4, true), (5, true), (6, true), (7, true), (8, true), (9, true), (10, true), (11, true), (12, true), (13, false), (14, true), (15, false)], [0, 0, 0, 0, 0, 0, 48, 112, 0, 0, 768, 1792, 4083, 8179, 16383, 32767], none), (10, [(0, true), (1, true), (2, true), (3, true), (4, true), (5, true), (6, true), (7, true), (8, true), (9, true), (10, true), (11, true), (12, true), (13, false), (14, true), (15, false)], [0, 0, 0, 0, 0, 0, 48, 112, 0, 0, 768, 1792, 4083, 8179, 16383, 32767], none), (13, [(0, true), (1, true), (2, true), (3, true), (4, true), (5, true), (6, true), (7, true), (8, true), (9, true), (10, true), (11, true), (12, true), (13, false), (14, true), (15, true)], [0, 0, 3, 7, 15, 15, 15, 111, 239, 15, 15, 1551, 3599, 8191, 16383, 32767], none), (15, [(0, true), (1, true), (2, true), (3, true), (4, true), (5, true), (6, true), (7, true), (8, true), (9, true), (10, true), (11, true), (12, true), (13, false), (14, true), (15, true), (16, true)], [0, 0, 3, 7, 15, 15, 15, 111, 239, 15, 15, 1551, 3599, 8191, 16383, 32767, 65535], none), (18, [(0, true), (1, true), (2, true), (3, true), (4, true), (5, true), (6, true), (7, true), (8, true), (9, true), (10, true), (11, true), (12, true), (13, false), (14, true), (15, false)], [0, 0, 0, 0, 0, 0, 48, 112, 0, 0, 768, 1792, 4083, 8179, 16383, 32767], none), (21, [(0, true), (1, true), (2, true), (3, true), (4, true), (5, true), (6, true), (7, true), (8, true), (9, true), (10, true), (11, true), (12, true), (13, false), (14, true), (15, false)], [0, 0, 0, 0, 0, 0, 48, 112, 0, 0, 768, 1792, 4083, 8179, 16383, 32767], none)]),
  (73, [(3, [(0, true), (1, true), (2, true), (3, true), (4, true), (5, true), (6, true), (7, true), (8, true), (9, true), (10, true), (11, true), (12, true), (13, true), (14, true), (15, true), (16, true), (17, true), (18, true), (19, false), (20, true), (21, true)], [0, 1, 0, 7, 15, 31, 31, 31, 31, 415, 991, 2015, 31, 31, 31, 24607, 57375, 127007, 258079, 524287, 1048575, 2097151], none), (5, [(0, true), (1, true), (2, true), (3, true), (4, true), (5, true), (6, true), (7, true), (8, true), (9, true), (10, true), (11, true), (12, true), (13, false), (14, true), (15, true)], [0, 0, 0, 0, 12, 30, 62, 0, 0, 0, 768, 1920, 3968, 8191, 16383, 32767], none), (6, [(0, true), (1, true), (2, true), (3, true), (4, true), (5, true), (6, true), (7, true), (8, true), (9, true), (10, true), (11, true), (12, true), (13, true), (14, true), (15, true), (16, true), (17, true), (18, true), (19, true), (20, true), (21, false), (22, true), (23, false)], [0, 0, 0, 6, 0, 0, 0, 96, 0, 0, 0, 1536, 3840, 7936, 0, 0, 0, 98304, 245760, 507904, 1048335, 2096911, 4194303, 8388607], none)]),
  (75, [(1, [(0, true), (1, true), (2, true), (3, true), (4, true), (5, true), (6, true), (7, true), (8, true), (9, false)], [0, 1, 3, 0, 8, 24, 56, 127, 255, 511], none), (2, [(0, true), (1, true), (2, true), (3, true), (4, true), (5, true), (6, true), (7, true), (8, true), (9, false)], [0, 1, 3, 0, 8, 24, 56, 127, 255, 511], none), (3, [(0, true), (1, true), (2, true), (3, true), (4, true), (5, true), (6, true), (7, true), (8, true), (9, false)], [0, 1, 3, 0, 8, 24, 56, 127, 255, 511], none)]),
  (80, [(1, [(0, true), (1, true), (2, true), (3, true), (4, true), (5, true), (6, true), (7, true), (8, true), (9, false), (10, true)], [0, 0, 0, 6, 14, 0, 0, 96, 224, 511, 1023], none)]),
  (85, [(7, [(0, true), (1, true), (2, true), (3, true), (4, true), (5, true), (6, true), (7, true), (8, true), (9, true), (10, true), (11, true), (12, false), (13, true), (14, false)], [0, 0, 2, 0, 0, 16, 0, 64, 192, 0, 512, 455, 2503, 8191, 16383], none), (8, [(0, true), (1, true), (2, true), (3, true), (4, true), (5, true), (6, true), (7, true), (8, true), (9, true), (10, true), (11, true), (12, false), (13, true), (14, false)], [0, 0, 2, 0, 0, 16, 0, 64, 192, 0, 512, 455, 2503, 8191, 16383], none), (9, [(0, true), (1, true), (2, true), (3, true), (4, true), (5, true), (6, true), (7, true), (8, true), (9, true), (10, true), (11, true), (12, false), (13, true), (14, false)], [0, 0, 2, 0, 0, 16, 0, 64, 192, 0, 512, 455, 2503, 8191, 16383], none), (10, [(0, true), (1, true), (2, true), (3, true), (4, true), (5, true), (6, true), (7, true), (8, true), (9, true), (10, true), (11, true), (12, false), (13, true), (14, false)], [0, 0, 2, 0, 0, 16, 0, 64, 192, 0, 512, 455, 2503, 8191, 16383], none), (17, [(0, true), (1, true), (2, true), (3, true), (4, true), (5, true), (6, true), (7, true), (8, true), (9, true), (10, true), (11, true), (12, false), (13, true), (14, false)], [0, 0, 2, 0, 0, 16, 0, 64, 192, 0, 512, 455, 2503, 8191, 16383], none), (18, [(0, true), (1, true), (2, true), (3, true), (4, true), (5, true), (6, true), (7, true), (8, true), (9, true), (10, true), (11, true), (12, false), (13, true), (14, false)], [0, 0, 2, 0, 0, 16, 0, 64, 192, 0, 512, 455, 2503, 8191, 16383], none), (23, [(0, true), (1, true), (2, true), (3, true), (4, true), (5, true), (6, true), (7, true), (8, true), (9, true), (10, true), (11, true), (12, false), (13, true), (14, false)], [0, 0, 2, 0, 0, 16, 0, 64, 192, 0, 512, 455, 2503, 8191, 16383], none)]),
  (89, [(1, [(0, true), (1, true), (3, true), (2, false), (4, true), (5, false), (6, true)], [0, 0, 2, 0, 15, 31, 63], none)]),
  (90, [(1, [(0, true), (1, true), (3, true), (2, false), (4, true), (5, false), (6, true)], [0, 0, 2, 0, 15, 31, 63], none)])]
def plans : Ord := fun f id => match look f planL with
  | some l => look id l
  | none => none
def okF (fn : Func) (l : List (Nat × Sched)) : Bool := match fn.body with
  | some b => (draws b).all fun x => match look x.1 l with
    | some p => planOK x.2 p.2.1 (treeOf p)
    | none => true
  | none => true
theorem all_ok : (planL.all fun e => match Tryz.prog.funcs[e.1]? with
  | some fn => okF fn e.2
  | none => true) = true := by kernel_rfl
theorem hpl : ∀ g fn b, Tryz.prog.funcs[g]? = some fn → fn.body = some b → OKd plans g b := by
  intro g fn b hf hb x hx p hp
  unfold plans at hp
  split at hp
  · rename_i l hl
    have h1 := List.all_eq_true.1 all_ok (g, l) (look_mem hl)
    simp only [hf] at h1
    unfold okF at h1
    rw [hb] at h1
    have h2 := List.all_eq_true.1 h1 x hx
    rw [hp] at h2
    exact h2
  · cases hp
theorem mix : Tryz.prog.follows .mixedOrders = true := by kernel_rfl
theorem gnone (w0 : World) (L : List Asn) : GOK (fun _ => none) w0 L := fun _ _ _ _ g vs h => by cases h
/-- What is not walked: slices.Grow. -/
noncomputable def X0 : Specs := fun g => bif Nat.beq g 49 then some (growSpec 1) else none
theorem x0_ok {G : Nat → Option (List Value)} : SpecsOK Tryz.prog G X0 := by
  intro g f h avs m r m' ν vs w w0 L hf _ hv hs
  unfold X0 at h
  cases hb : Nat.beq g 49 with
  | false => rw [hb] at h; cases h
  | true =>
    rw [hb] at h
    have := Nat.eq_of_beq_eq_true hb
    subst this
    simp only [cond_true, Option.some.injEq] at h
    subst h
    exact grow_ok hf hv hs
noncomputable abbrev run0 (n : Nat) (X : Specs) : Rec := exec Tryz.prog (fun _ => none) plans X n
/-- A call whose result bears no name. -/
theorem ev_call {X : Specs} (hX : SpecsOK Tryz.prog (fun _ => none) X) (n : Nat) {f : FuncId} (hen : enters Tryz.prog f = true) {avs : List AV} {vs : List Value} {r : AV} {v : Value} (h : (callK Tryz.prog (fun _ => none) X (run0 n X) f avs ⟨.nil, 0⟩).map (·.1) = some r)
    (hv : vals (fun _ => none) avs = some vs) (hr : r.val (fun _ => none) = some v) {w w0 : World} {L : List Asn} (hs : St w0 L w) : Calls Tryz.prog f vs.toArray w (Ret fun rv w' => rv = v ∧ St w0 L w') := by
  cases hc : callK Tryz.prog (fun _ => none) X (run0 n X) f avs ⟨.nil, 0⟩ with
  | none => rw [hc] at h; cases h
  | some q =>
    obtain ⟨r', m'⟩ := q
    rw [hc] at h
    simp only [Option.map_some, Option.some.injEq] at h
    subst h
    refine Calls.ret (callK_sound hX hpl mix n hen hc (gnone w0 L) hv (Ev.St.start hs)) ?_
    rintro v' w' ⟨ν', k1, k2, k3⟩
    rw [AV.val_mono k1 _ hr] at k2
    cases k2
    exact ⟨rfl, k3.tail⟩
/-- A block, as the reckoner's first name. -/
noncomputable def M1 (l : List AV) : AM := ⟨Tr.nil.set 0 (some (.cells l)), 1⟩
def N1 (b : Nat) : Nu := fun k => if k = 0 then some (b, 0) else none
theorem m1_get (l : List AV) (k : Nat) : (M1 l).get k = if k = 0 then some (.cells l) else none := by
  show (Tr.nil.set 0 (some (Blk.cells l))).get k = _
  rw [Tr.get_set]
  split
  · rfl
  · rfl
theorem ofCel {b : Nat} {cs : Array Value} {T : TypeId} {w w0 : World} {L : List Asn} (hs : St w0 (Cel b cs T :: L) w) {l : List AV} (hl : vals (N1 b) l = some cs.toList) : St w0 (Mem (N1 b) (M1 l) :: L) w := by
  refine St.conv hs (fun hc => ?_) ?_
  · obtain ⟨fr, h1, h2⟩ := hc
    refine ⟨fun id hid => ?_, fun id blk hg => ?_, fun id id' blk blk' p p' hg hg' _ _ _ => ?_⟩
    · have : 1 ≤ id := hid
      unfold N1
      rw [if_neg (by omega)]
    · rw [m1_get] at hg
      split at hg
      · rename_i e
        subst e
        cases hg
        exact ⟨(b, 0), _, rfl, h1, cs.toList, T, fr, hl, by simp, by simpa using h2⟩
      · cases hg
    · rw [m1_get] at hg hg'
      split at hg
      · rename_i e
        split at hg'
        · rename_i e'
          rw [e, e']
        · cases hg'
      · cases hg
  · rintro b' ⟨id, blk, p, hg, hp, rfl⟩
    rw [m1_get] at hg
    split at hg
    · rename_i e
      subst e
      have : p = (b, 0) := (Option.some.inj hp).symm
      rw [this]
      rfl
    · cases hg
noncomputable def envA : List (Nat × AV) → AE
  | [] => .nil
  | (k, x) :: l => (envA l).set k (some x)
theorem fits_envA {ν : Nu} {N : Nat} {S : Env} {a : Act} (hf : Fits N S a) : ∀ (l : List (Nat × AV)), (∀ p ∈ l, ∃ v, p.2.val ν = some v ∧ S.get p.1 = some v) → FitsA ν N (envA l) a
  | [], _ => ⟨hf.defers, hf.size, fun k x h => by cases h⟩
  | (k, x) :: l, h => by
    have ih := fits_envA hf l fun p hp => h p (List.mem_cons_of_mem _ hp)
    refine ⟨hf.defers, hf.size, fun j y hy => ?_⟩
    simp only [envA] at hy
    rw [Tr.get_set] at hy
    split at hy
    · rename_i e
      subst e
      cases hy
      obtain ⟨v, h1, h2⟩ := h (j, x) (List.mem_cons_self ..)
      exact ⟨v, h1, hf.get h2⟩
    · exact ih.at_ j y hy
/-- The rest of a body, by the reckoner. -/
theorem ev_rest {X : Specs} (hX : SpecsOK Tryz.prog (fun _ => none) X) (n : Nat) (f : FuncId) {fn : Func} {φ : Value → World → Prop} {N t : Nat} {c b : Code} (hfn : Tryz.prog.funcs[f]? = some fn) (hb : fn.body = some b) (hd : ∀ x ∈ draws c, x ∈ draws b) (hr : fn.results = #[.tmp t]) {l : List (Nat × AV)} {m : AM} {v : Value} {r : AV}
    (h : (match run0 n X f N c (envA l) m with
      | some (.ret, S', _) => S'.get t
      | _ => none) = some r) (hv : r.val (fun _ => none) = some v) {S : Env} {ν : Nu} {w w0 : World} {L : List Asn} (hl : ∀ p ∈ l, ∃ v, p.2.val ν = some v ∧ S.get p.1 = some v) (hs : St w0 (Mem ν m :: L) w)
    (hk : ∀ w', St w0 L w' → φ v w') : GoC Tryz.prog (bodyPost Tryz.prog fn (Ret φ)) N [] c S w := by
  intro a hf
  split at h
  · rename_i S' m' he
    have hdd : OKd plans f c := fun x hx => hpl f fn b hfn hb x (hd x hx)
    have hwp := exec_sound hX hpl mix n f N c (envA l) m .ret S' m' he hdd ν w0 L w a (gnone w0 L) (fits_envA hf l hl) hs
    refine wp_mono hwp fun e' a' w' hq => ?_
    obtain ⟨rfl, ν', k1, k2, k3⟩ := hq
    obtain ⟨u, h1, h2⟩ := k2.at_ t r h
    have h3 : u = v := by
      have := AV.val_mono (ν := fun _ => none) (ν' := ν') (fun id p hp => by cases hp) r hv
      rw [this] at h1
      exact (Option.some.inj h1).symm
    subst h3
    exact ⟨k2.defers, u, by rw [results_tmp hr, h2], hk w' k3.tail⟩
  · cases h
def tabG : Nat → Option (List Value) := fun _ => none
theorem gok_all (W : World) (L : List Asn) : GOK tabG W L := fun _ _ _ _ g vs h => by cases h
/-- A call whose result bears no name. -/
theorem ev_callG {X : Specs} (hX : SpecsOK Tryz.prog tabG X) (n : Nat) {f : FuncId} (hen : enters Tryz.prog f = true) {avs : List AV} {vs : List Value} {r : AV} {v : Value} (h : (callK Tryz.prog tabG X (exec Tryz.prog tabG plans X n) f avs ⟨.nil, 0⟩).map (·.1) = some r)
    (hv : vals (fun _ => none) avs = some vs) (hr : r.val (fun _ => none) = some v) {w w0 : World} {L : List Asn} (hG : GOK tabG w0 L) (hs : St w0 L w) : Calls Tryz.prog f vs.toArray w (Ret fun rv w' => rv = v ∧ St w0 L w') := by
  cases hc : callK Tryz.prog tabG X (exec Tryz.prog tabG plans X n) f avs ⟨.nil, 0⟩ with
  | none => rw [hc] at h; cases h
  | some q =>
    obtain ⟨r', m'⟩ := q
    rw [hc] at h
    simp only [Option.map_some, Option.some.injEq] at h
    subst h
    refine Calls.ret (callK_sound hX hpl mix n hen hc hG hv (Ev.St.start hs)) ?_
    rintro v' w' ⟨ν', k1, k2, k3⟩
    rw [AV.val_mono k1 _ hr] at k2
    cases k2
    exact ⟨rfl, k3.tail⟩
/-! Calls of plain values, of which the result is known: a table. -/
def w8 (l : List Nat) : AV := .agg (l.map (AV.num .u32))
def b64 (l : List Nat) : AV := .agg (l.map (AV.num .u8))
def Known (g : FuncId) (e : List AV × AV) : Prop := (callK Tryz.prog tabG X0 (execD Tryz.prog tabG plans X0 100000) g e.1 ⟨.nil, 0⟩).map (·.1) = some e.2 ∧ (vals (fun _ => none) e.1).isSome = true ∧ (e.2.val (fun _ => none)).isSome = true
def lookB (ax : List AV) : List (List AV × AV) → Option AV
  | [] => none
  | e :: l => bif sameAs ax e.1 then some e.2 else lookB ax l
theorem lookB_mem {ax : List AV} {r : AV} : ∀ {l : List (List AV × AV)}, lookB ax l = some r → (ax, r) ∈ l
  | e :: l, h => by
    simp only [lookB] at h
    cases hb : sameAs ax e.1 with
    | true =>
      rw [hb] at h
      simp only [cond_true, Option.some.injEq] at h
      rw [sameAs_eq hb, ← h]
      exact List.mem_cons_self ..
    | false => rw [hb] at h; exact List.mem_cons_of_mem _ (lookB_mem h)
theorem known_ok {g : FuncId} (hen : enters Tryz.prog g = true) {e : List AV × AV} (hk : Known g e) {ν : Nu} {m : AM} {vs : List Value} {w w0 : World} {L : List Asn} (hG : GOK tabG w0 L) (hv : vals ν e.1 = some vs) (hs : St w0 (Mem ν m :: L) w) :
    Calls Tryz.prog g vs.toArray w (Ret fun v w' => ∃ ν', ν.le ν' ∧ e.2.val ν' = some v ∧ St w0 (Mem ν' m :: L) w') := by
  obtain ⟨h1, h2, h3⟩ := hk
  rw [execD_eq] at h1
  have hle : Nu.le (fun _ => none) ν := fun id p hp => by cases hp
  cases hc : vals (fun _ => none) e.1 with
  | none => rw [hc] at h2; cases h2
  | some vs0 =>
    have := vals_mono hle _ hc
    rw [hv] at this
    cases this
    cases hr : e.2.val (fun _ => none) with
    | none => rw [hr] at h3; cases h3
    | some v0 =>
      refine Calls.ret (ev_callG x0_ok 100000 hen h1 hc hr (hG.frame _) hs) ?_
      rintro v w' ⟨rfl, k2⟩
      exact ⟨ν, Nu.le_refl ν, AV.val_mono hle _ hr, k2⟩
def b8 (l : List Nat) : List AV := l.map (AV.num .u8)
end Go.Proofs.YtggkhhogpallbaaGreatDoor
