/- The abstract forms of the functions of this seat, each checked against the translation. No condition. -/
import Derived.Test.YtalaadcbpjnglaaAmC
import Derived.Test.YtalaadcbpjnglaaProg
namespace Go.Proofs.Ytalaadcbpjnglaa
open Go Go.AM Go.Proofs

/-- the seat's program; the types whose comparison is taken; the functions that may write to what is older -/
def kd : Nat → Kd := fun f => if [79, 80, 81, 96, 97, 102].contains f then .wrt else if [25].contains f then .closed else .ro
noncomputable def C : Cfg := { P := Try.prog, eqT := fun _ => none, kd := kd }

/-- congou/congoulaw09.ArraysLines -/
def f3A : AFunc :=
{ nargs := 3, res := [.t 6], body :=
  (.seq
   (.reg none [⟨(some 6), .mv (.c (.b false)), none⟩])
   (.seq
    (.reg none [⟨(some 12), .mv (.t 0), none⟩,
      ⟨(some 13), .call 18 [(.t 12)], none⟩,
      ⟨(some 11), .mv (.t 13), none⟩,
      ⟨(some 14), .extr (.t 11) 0, none⟩,
      ⟨(some 15), .extr (.t 11) 1, none⟩,
      ⟨(some 7), .alloc [(.int .i64 0), .nils], none⟩,
      ⟨none, .store 2 (.t 7) (.t 14), none⟩,
      ⟨(some 8), .mv (.t 15), none⟩])
    (.seq
     (.reg none [⟨(some 17), .mv (.t 0), none⟩,
       ⟨(some 18), .mv (.t 1), none⟩,
       ⟨(some 19), .mv (.t 2), none⟩,
       ⟨(some 20), .call 19 [(.t 17), (.t 18), (.t 19)], none⟩,
       ⟨(some 16), .mv (.t 20), none⟩,
       ⟨(some 21), .extr (.t 16) 0, none⟩,
       ⟨(some 22), .extr (.t 16) 1, none⟩,
       ⟨(some 9), .mv (.t 21), none⟩,
       ⟨(some 10), .mv (.t 22), none⟩])
     (.seq
      (.seq
       (.reg none [⟨(some 23), .mv (.t 0), none⟩,
         ⟨(some 24), .bin .eql (.t 23) (.c (.int .i64 2)), none⟩,
         ⟨(some 25), .mv (.t 24), none⟩,
         ⟨(some 26), .mv (.t 0), some (25, false)⟩,
         ⟨(some 27), .bin .eql (.t 26) (.c (.int .i64 3)), some (25, false)⟩,
         ⟨(some 28), .pick (.t 25) (.c (.b true)) (.t 27), none⟩])
       (.cond (.t 28)
        (.seq
         (.reg none [⟨(some 29), .load (some 2) (.t 7), none⟩,
           ⟨(some 30), .call 21 [(.t 29)], none⟩,
           ⟨(some 31), .mv (.t 0), none⟩,
           ⟨(some 32), .call 22 [(.t 31)], none⟩,
           ⟨(some 33), .call 20 [(.t 30), (.t 32)], none⟩,
           ⟨(some 34), .un .not (.t 33), none⟩,
           ⟨(some 35), .mv (.t 34), none⟩,
           ⟨(some 36), .mv (.t 8), some (35, false)⟩,
           ⟨(some 37), .bin .neq (.t 36) (.c (.int .i64 0)), some (35, false)⟩,
           ⟨(some 38), .pick (.t 35) (.c (.b true)) (.t 37), none⟩])
         (.cond (.t 38)
          (.seq
           (.reg none [⟨(some 6), .mv (.c (.b false)), none⟩])
           .ret)
          .skip))
        (.seq
         (.reg none [⟨(some 39), .load (some 2) (.t 7), none⟩,
           ⟨(some 40), .call 23 [(.t 39)], none⟩,
           ⟨(some 41), .un .not (.t 40), none⟩,
           ⟨(some 42), .mv (.t 41), none⟩,
           ⟨(some 43), .mv (.t 8), some (42, false)⟩,
           ⟨(some 44), .bin .neq (.t 43) (.c (.int .i64 2)), some (42, false)⟩,
           ⟨(some 45), .pick (.t 42) (.c (.b true)) (.t 44), none⟩])
         (.cond (.t 45)
          (.seq
           (.reg none [⟨(some 6), .mv (.c (.b false)), none⟩])
           .ret)
          .skip))))
      (.seq
       (.seq
        (.reg none [⟨(some 46), .mv (.t 0), none⟩,
          ⟨(some 47), .mv (.t 1), none⟩,
          ⟨(some 48), .mv (.t 2), none⟩,
          ⟨(some 49), .call 24 [(.t 46), (.t 47), (.t 48)], none⟩,
          ⟨(some 50), .un .not (.t 49), none⟩])
        (.cond (.t 50)
         (.seq
          (.reg none [⟨(some 51), .mv (.t 9), none⟩,
            ⟨(some 52), .bin .eql (.t 51) (.c (.int .i64 0)), none⟩,
            ⟨(some 53), .mv (.t 52), none⟩,
            ⟨(some 54), .mv (.t 10), some (53, true)⟩,
            ⟨(some 55), .bin .eql (.t 54) (.c (.int .i64 2)), some (53, true)⟩,
            ⟨(some 56), .pick (.t 53) (.t 55) (.c (.b false)), none⟩,
            ⟨(some 57), .mv (.t 56), none⟩,
            ⟨(some 58), .call 25 [], some (57, true)⟩,
            ⟨(some 59), .pick (.t 57) (.t 58) (.c (.b false)), none⟩,
            ⟨(some 6), .mv (.t 59), none⟩])
          .ret)
         .skip))
       (.seq
        (.reg none [⟨(some 60), .mv (.t 9), none⟩,
          ⟨(some 61), .mv (.t 0), none⟩,
          ⟨(some 62), .mv (.t 1), none⟩,
          ⟨(some 63), .mv (.t 2), none⟩,
          ⟨(some 64), .call 26 [(.t 61), (.t 62), (.t 63)], none⟩,
          ⟨(some 65), .bin .eql (.t 60) (.t 64), none⟩,
          ⟨(some 66), .mv (.t 65), none⟩,
          ⟨(some 67), .mv (.t 10), some (66, true)⟩,
          ⟨(some 68), .bin .eql (.t 67) (.c (.int .i64 0)), some (66, true)⟩,
          ⟨(some 69), .pick (.t 66) (.t 68) (.c (.b false)), none⟩,
          ⟨(some 70), .mv (.t 69), none⟩,
          ⟨(some 71), .call 25 [], some (70, true)⟩,
          ⟨(some 72), .pick (.t 70) (.t 71) (.c (.b false)), none⟩,
          ⟨(some 6), .mv (.t 72), none⟩])
        .ret)))))) }
theorem f3P : prepF C Try.f3 = some f3A := by kernel_rfl

/-- congou/congoulaw09.ArraysLeast -/
def f4A : AFunc :=
{ nargs := 1, res := [.t 2], body :=
  (.seq
   (.reg none [⟨(some 2), .mv (.c (.b false)), none⟩])
   (.seq
    (.reg none [⟨(some 8), .mv (.t 0), none⟩,
      ⟨(some 9), .call 27 [(.t 8)], none⟩,
      ⟨(some 7), .mv (.t 9), none⟩,
      ⟨(some 10), .extr (.t 7) 0, none⟩,
      ⟨(some 11), .extr (.t 7) 1, none⟩,
      ⟨(some 3), .mv (.t 10), none⟩,
      ⟨(some 4), .mv (.t 11), none⟩])
    (.seq
     (.reg none [⟨(some 13), .mv (.t 0), none⟩,
       ⟨(some 14), .call 28 [(.t 13)], none⟩,
       ⟨(some 12), .mv (.t 14), none⟩,
       ⟨(some 15), .extr (.t 12) 0, none⟩,
       ⟨(some 16), .extr (.t 12) 1, none⟩,
       ⟨(some 5), .alloc [(.int .i64 0), .nils], none⟩,
       ⟨none, .store 2 (.t 5) (.t 15), none⟩,
       ⟨(some 6), .mv (.t 16), none⟩])
     (.seq
      (.seq
       (.reg none [⟨(some 17), .mv (.t 0), none⟩,
         ⟨(some 18), .bin .lss (.t 17) (.c (.int .i64 2)), none⟩,
         ⟨(some 19), .mv (.t 18), none⟩,
         ⟨(some 20), .mv (.t 0), some (19, false)⟩,
         ⟨(some 21), .bin .gtr (.t 20) (.c (.int .i64 35)), some (19, false)⟩,
         ⟨(some 22), .pick (.t 19) (.c (.b true)) (.t 21), none⟩])
       (.cond (.t 22)
        (.seq
         (.reg none [⟨(some 23), .mv (.t 3), none⟩,
           ⟨(some 24), .bin .eql (.t 23) (.c (.int .i64 0)), none⟩,
           ⟨(some 25), .mv (.t 24), none⟩,
           ⟨(some 26), .load (some 2) (.t 5), some (25, true)⟩,
           ⟨(some 27), .call 23 [(.t 26)], some (25, true)⟩,
           ⟨(some 28), .pick (.t 25) (.t 27) (.c (.b false)), none⟩,
           ⟨(some 29), .mv (.t 28), none⟩,
           ⟨(some 30), .mv (.t 4), some (29, true)⟩,
           ⟨(some 31), .bin .eql (.t 30) (.c (.int .i64 2)), some (29, true)⟩,
           ⟨(some 32), .pick (.t 29) (.t 31) (.c (.b false)), none⟩,
           ⟨(some 33), .mv (.t 32), none⟩,
           ⟨(some 34), .mv (.t 6), some (33, true)⟩,
           ⟨(some 35), .bin .eql (.t 34) (.c (.int .i64 2)), some (33, true)⟩,
           ⟨(some 36), .pick (.t 33) (.t 35) (.c (.b false)), none⟩,
           ⟨(some 37), .mv (.t 36), none⟩,
           ⟨(some 38), .call 25 [], some (37, true)⟩,
           ⟨(some 39), .pick (.t 37) (.t 38) (.c (.b false)), none⟩,
           ⟨(some 2), .mv (.t 39), none⟩])
         .ret)
        .skip))
      (.seq
       (.seq
        (.reg none [⟨(some 40), .mv (.t 3), none⟩,
          ⟨(some 41), .mv (.t 0), none⟩,
          ⟨(some 42), .call 29 [(.t 41)], none⟩,
          ⟨(some 43), .bin .neq (.t 40) (.t 42), none⟩,
          ⟨(some 44), .mv (.t 43), none⟩,
          ⟨(some 45), .mv (.t 4), some (44, false)⟩,
          ⟨(some 46), .bin .neq (.t 45) (.c (.int .i64 0)), some (44, false)⟩,
          ⟨(some 47), .pick (.t 44) (.c (.b true)) (.t 46), none⟩,
          ⟨(some 48), .mv (.t 47), none⟩,
          ⟨(some 49), .call 25 [], some (48, false)⟩,
          ⟨(some 50), .un .not (.t 49), some (48, false)⟩,
          ⟨(some 51), .pick (.t 48) (.c (.b true)) (.t 50), none⟩])
        (.cond (.t 51)
         (.seq
          (.reg none [⟨(some 2), .mv (.c (.b false)), none⟩])
          .ret)
         .skip))
       (.seq
        (.seq
         (.reg none [⟨(some 52), .mv (.t 0), none⟩,
           ⟨(some 53), .bin .gtr (.t 52) (.c (.int .i64 8)), none⟩])
         (.cond (.t 53)
          (.seq
           (.reg none [⟨(some 54), .load (some 2) (.t 5), none⟩,
             ⟨(some 55), .call 23 [(.t 54)], none⟩,
             ⟨(some 56), .mv (.t 55), none⟩,
             ⟨(some 57), .mv (.t 6), some (56, true)⟩,
             ⟨(some 58), .bin .eql (.t 57) (.c (.int .i64 2)), some (56, true)⟩,
             ⟨(some 59), .pick (.t 56) (.t 58) (.c (.b false)), none⟩,
             ⟨(some 2), .mv (.t 59), none⟩])
           .ret)
          .skip))
        (.seq
         (.reg none [⟨(some 60), .load (some 2) (.t 5), none⟩,
           ⟨(some 61), .call 21 [(.t 60)], none⟩,
           ⟨(some 62), .mv (.t 0), none⟩,
           ⟨(some 63), .call 30 [(.t 62)], none⟩,
           ⟨(some 64), .call 20 [(.t 61), (.t 63)], none⟩,
           ⟨(some 65), .mv (.t 64), none⟩,
           ⟨(some 66), .mv (.t 6), some (65, true)⟩,
           ⟨(some 67), .bin .eql (.t 66) (.c (.int .i64 0)), some (65, true)⟩,
           ⟨(some 68), .pick (.t 65) (.t 67) (.c (.b false)), none⟩,
           ⟨(some 2), .mv (.t 68), none⟩])
         .ret))))))) }
theorem f4P : prepF C Try.f4 = some f4A := by kernel_rfl

/-- congou/congoulaw09.ArraysChanges -/
def f5A : AFunc :=
{ nargs := 4, res := [.t 8], body :=
  (.seq
   (.reg none [⟨(some 4), .box (.t 0), none⟩,
     ⟨(some 5), .box (.t 1), none⟩,
     ⟨(some 8), .mv (.c (.b false)), none⟩])
   (.seq
    (.reg (some []) [⟨(some 20), .load (some 2) (.t 4), none⟩,
      ⟨(some 21), .call 32 [(.t 20)], none⟩,
      ⟨(some 22), .load (some 2) (.t 5), none⟩,
      ⟨(some 23), .call 32 [(.t 22)], none⟩,
      ⟨(some 24), .call 31 [(.t 21), (.t 23)], none⟩,
      ⟨(some 19), .mv (.t 24), none⟩,
      ⟨(some 25), .extr (.t 19) 0, none⟩,
      ⟨(some 26), .extr (.t 19) 1, none⟩,
      ⟨(some 9), .alloc [(.int .i64 0), .nils], none⟩,
      ⟨none, .store 2 (.t 9) (.t 25), none⟩,
      ⟨(some 10), .mv (.t 26), none⟩])
    (.seq
     (.reg none [⟨(some 28), .load (some 2) (.t 4), none⟩,
       ⟨(some 29), .call 32 [(.t 28)], none⟩,
       ⟨(some 30), .mv (.t 2), none⟩,
       ⟨(some 31), .call 33 [(.t 29), (.t 30)], none⟩,
       ⟨(some 27), .mv (.t 31), none⟩,
       ⟨(some 32), .extr (.t 27) 0, none⟩,
       ⟨(some 33), .extr (.t 27) 1, none⟩,
       ⟨(some 11), .alloc [(.int .i64 0), .nils], none⟩,
       ⟨none, .store 2 (.t 11) (.t 32), none⟩,
       ⟨(some 12), .mv (.t 33), none⟩])
     (.seq
      (.reg none [⟨(some 35), .load (some 2) (.t 4), none⟩,
        ⟨(some 36), .call 32 [(.t 35)], none⟩,
        ⟨(some 37), .mv (.t 2), none⟩,
        ⟨(some 38), .mv (.t 3), none⟩,
        ⟨(some 39), .call 35 [(.t 38)], none⟩,
        ⟨(some 40), .call 34 [(.t 36), (.t 37), (.t 39)], none⟩,
        ⟨(some 34), .mv (.t 40), none⟩,
        ⟨(some 41), .extr (.t 34) 0, none⟩,
        ⟨(some 42), .extr (.t 34) 1, none⟩,
        ⟨(some 13), .alloc [(.int .i64 0), .nils], none⟩,
        ⟨none, .store 2 (.t 13) (.t 41), none⟩,
        ⟨(some 14), .mv (.t 42), none⟩])
      (.seq
       (.seq
        (.reg none [⟨(some 43), .load (some 2) (.t 4), none⟩,
          ⟨(some 44), .load (some 2) (.t 5), none⟩,
          ⟨(some 45), .call 36 [(.t 43), (.t 44)], none⟩,
          ⟨(some 46), .un .not (.t 45), none⟩])
        (.cond (.t 46)
         (.seq
          (.reg none [⟨(some 47), .load (some 2) (.t 9), none⟩,
            ⟨(some 48), .call 23 [(.t 47)], none⟩,
            ⟨(some 49), .un .not (.t 48), none⟩,
            ⟨(some 50), .mv (.t 49), none⟩,
            ⟨(some 51), .mv (.t 10), some (50, false)⟩,
            ⟨(some 52), .bin .neq (.t 51) (.c (.int .i64 2)), some (50, false)⟩,
            ⟨(some 53), .pick (.t 50) (.c (.b true)) (.t 52), none⟩])
          (.cond (.t 53)
           (.seq
            (.reg none [⟨(some 8), .mv (.c (.b false)), none⟩])
            .ret)
           .skip))
         (.seq
          (.reg none [⟨(some 55), .load (some 2) (.t 4), none⟩,
            ⟨(some 56), .load (some 2) (.t 5), none⟩,
            ⟨(some 57), .call 37 [(.t 55), (.t 56)], none⟩,
            ⟨(some 54), .mv (.t 57), none⟩,
            ⟨(some 58), .extr (.t 54) 0, none⟩,
            ⟨(some 59), .extr (.t 54) 1, none⟩,
            ⟨(some 15), .alloc [(.int .i64 0), .nils], none⟩,
            ⟨none, .store 2 (.t 15) (.t 58), none⟩,
            ⟨(some 16), .mv (.t 59), none⟩])
          (.seq
           (.reg (some []) [⟨(some 60), .load (some 2) (.t 9), none⟩,
             ⟨(some 61), .call 21 [(.t 60)], none⟩,
             ⟨(some 62), .load (some 2) (.t 15), none⟩,
             ⟨(some 63), .call 20 [(.t 61), (.t 62)], none⟩,
             ⟨(some 64), .un .not (.t 63), none⟩,
             ⟨(some 65), .mv (.t 64), none⟩,
             ⟨(some 66), .mv (.t 10), some (65, false)⟩,
             ⟨(some 67), .mv (.t 16), some (65, false)⟩,
             ⟨(some 68), .bin .neq (.t 66) (.t 67), some (65, false)⟩,
             ⟨(some 69), .pick (.t 65) (.c (.b true)) (.t 68), none⟩])
           (.cond (.t 69)
            (.seq
             (.reg none [⟨(some 8), .mv (.c (.b false)), none⟩])
             .ret)
            .skip)))))
       (.seq
        (.seq
         (.reg none [⟨(some 70), .load (some 2) (.t 4), none⟩,
           ⟨(some 71), .call 38 [(.t 70)], none⟩,
           ⟨(some 72), .un .not (.t 71), none⟩,
           ⟨(some 73), .mv (.t 72), none⟩,
           ⟨(some 74), .mv (.t 2), some (73, false)⟩,
           ⟨(some 75), .bin .lss (.t 74) (.c (.int .i64 0)), some (73, false)⟩,
           ⟨(some 76), .pick (.t 73) (.c (.b true)) (.t 75), none⟩,
           ⟨(some 77), .mv (.t 76), none⟩,
           ⟨(some 78), .mv (.t 2), some (77, false)⟩,
           ⟨(some 79), .load (some 2) (.t 4), some (77, false)⟩,
           ⟨(some 80), .call 39 [(.t 79)], some (77, false)⟩,
           ⟨(some 81), .bin .geq (.t 78) (.t 80), some (77, false)⟩,
           ⟨(some 82), .pick (.t 77) (.c (.b true)) (.t 81), none⟩])
         (.cond (.t 82)
          (.seq
           (.reg none [⟨(some 83), .load (some 2) (.t 11), none⟩,
             ⟨(some 84), .call 23 [(.t 83)], none⟩,
             ⟨(some 85), .mv (.t 84), none⟩,
             ⟨(some 86), .load (some 2) (.t 13), some (85, true)⟩,
             ⟨(some 87), .call 23 [(.t 86)], some (85, true)⟩,
             ⟨(some 88), .pick (.t 85) (.t 87) (.c (.b false)), none⟩,
             ⟨(some 89), .mv (.t 88), none⟩,
             ⟨(some 90), .mv (.t 12), some (89, true)⟩,
             ⟨(some 91), .bin .eql (.t 90) (.c (.int .i64 2)), some (89, true)⟩,
             ⟨(some 92), .pick (.t 89) (.t 91) (.c (.b false)), none⟩,
             ⟨(some 93), .mv (.t 92), none⟩,
             ⟨(some 94), .mv (.t 14), some (93, true)⟩,
             ⟨(some 95), .bin .eql (.t 94) (.c (.int .i64 2)), some (93, true)⟩,
             ⟨(some 96), .pick (.t 93) (.t 95) (.c (.b false)), none⟩,
             ⟨(some 97), .mv (.t 96), none⟩,
             ⟨(some 98), .call 25 [], some (97, true)⟩,
             ⟨(some 99), .pick (.t 97) (.t 98) (.c (.b false)), none⟩,
             ⟨(some 8), .mv (.t 99), none⟩])
           .ret)
          .skip))
        (.seq
         (.seq
          (.reg none [⟨(some 101), .load (some 2) (.t 4), none⟩,
            ⟨(some 102), .mv (.t 2), none⟩,
            ⟨(some 103), .call 40 [(.t 101), (.t 102)], none⟩,
            ⟨(some 100), .mv (.t 103), none⟩,
            ⟨(some 104), .extr (.t 100) 0, none⟩,
            ⟨(some 105), .extr (.t 100) 1, none⟩,
            ⟨(some 17), .alloc [(.int .i64 0), .nils], none⟩,
            ⟨none, .store 2 (.t 17) (.t 104), none⟩,
            ⟨(some 18), .mv (.t 105), none⟩])
          (.seq
           (.reg (some []) [⟨(some 106), .load (some 2) (.t 11), none⟩,
             ⟨(some 107), .call 21 [(.t 106)], none⟩,
             ⟨(some 108), .load (some 2) (.t 17), none⟩,
             ⟨(some 109), .call 20 [(.t 107), (.t 108)], none⟩,
             ⟨(some 110), .un .not (.t 109), none⟩,
             ⟨(some 111), .mv (.t 110), none⟩,
             ⟨(some 112), .mv (.t 12), some (111, false)⟩,
             ⟨(some 113), .mv (.t 18), some (111, false)⟩,
             ⟨(some 114), .bin .neq (.t 112) (.t 113), some (111, false)⟩,
             ⟨(some 115), .pick (.t 111) (.c (.b true)) (.t 114), none⟩])
           (.cond (.t 115)
            (.seq
             (.reg none [⟨(some 8), .mv (.c (.b false)), none⟩])
             .ret)
            .skip)))
         (.seq
          (.seq
           (.reg none [⟨(some 116), .faddr 0 (.t 4), none⟩,
             ⟨(some 117), .load none (.t 116), none⟩,
             ⟨(some 118), .mv (.t 3), none⟩,
             ⟨(some 119), .call 41 [(.t 117), (.t 118)], none⟩,
             ⟨(some 120), .un .not (.t 119), none⟩])
           (.cond (.t 120)
            (.seq
             (.reg none [⟨(some 121), .load (some 2) (.t 13), none⟩,
               ⟨(some 122), .call 23 [(.t 121)], none⟩,
               ⟨(some 123), .mv (.t 122), none⟩,
               ⟨(some 124), .mv (.t 14), some (123, true)⟩,
               ⟨(some 125), .bin .eql (.t 124) (.c (.int .i64 2)), some (123, true)⟩,
               ⟨(some 126), .pick (.t 123) (.t 125) (.c (.b false)), none⟩,
               ⟨(some 127), .mv (.t 126), none⟩,
               ⟨(some 128), .call 25 [], some (127, true)⟩,
               ⟨(some 129), .pick (.t 127) (.t 128) (.c (.b false)), none⟩,
               ⟨(some 8), .mv (.t 129), none⟩])
             .ret)
            .skip))
          (.seq
           (.reg (some []) [⟨(some 130), .load (some 2) (.t 13), none⟩,
             ⟨(some 131), .call 21 [(.t 130)], none⟩,
             ⟨(some 132), .load (some 2) (.t 4), none⟩,
             ⟨(some 133), .mv (.t 2), none⟩,
             ⟨(some 134), .mv (.t 3), none⟩,
             ⟨(some 135), .call 42 [(.t 132), (.t 133), (.t 134)], none⟩,
             ⟨(some 136), .call 20 [(.t 131), (.t 135)], none⟩,
             ⟨(some 137), .mv (.t 136), none⟩,
             ⟨(some 138), .mv (.t 14), some (137, true)⟩,
             ⟨(some 139), .bin .eql (.t 138) (.c (.int .i64 0)), some (137, true)⟩,
             ⟨(some 140), .pick (.t 137) (.t 139) (.c (.b false)), none⟩,
             ⟨(some 141), .mv (.t 140), none⟩,
             ⟨(some 142), .call 25 [], some (141, true)⟩,
             ⟨(some 143), .pick (.t 141) (.t 142) (.c (.b false)), none⟩,
             ⟨(some 8), .mv (.t 143), none⟩])
           .ret))))))))) }
theorem f5P : prepF C Try.f5 = some f5A := by kernel_rfl

/-- congou/congoulaw09.ArraysGreedy -/
def f6A : AFunc :=
{ nargs := 3, res := [.t 6], body :=
  (.seq
   (.reg none [⟨(some 6), .mv (.c (.b false)), none⟩])
   (.seq
    (.reg none [⟨(some 12), .mv (.t 0), none⟩,
      ⟨(some 13), .mv (.t 1), none⟩,
      ⟨(some 14), .mv (.t 2), none⟩,
      ⟨(some 15), .call 43 [(.t 12), (.t 13), (.t 14)], none⟩,
      ⟨(some 11), .mv (.t 15), none⟩,
      ⟨(some 16), .extr (.t 11) 0, none⟩,
      ⟨(some 17), .extr (.t 11) 1, none⟩,
      ⟨(some 7), .alloc [(.int .i64 0), .nils], none⟩,
      ⟨none, .store 2 (.t 7) (.t 16), none⟩,
      ⟨(some 8), .mv (.t 17), none⟩])
    (.seq
     (.seq
      (.reg none [⟨(some 18), .mv (.t 0), none⟩,
        ⟨(some 19), .mv (.t 1), none⟩,
        ⟨(some 20), .mv (.t 2), none⟩,
        ⟨(some 21), .call 44 [(.t 18), (.t 19), (.t 20)], none⟩,
        ⟨(some 22), .un .not (.t 21), none⟩])
      (.cond (.t 22)
       (.seq
        (.reg none [⟨(some 23), .load (some 2) (.t 7), none⟩,
          ⟨(some 24), .call 23 [(.t 23)], none⟩,
          ⟨(some 25), .mv (.t 24), none⟩,
          ⟨(some 26), .mv (.t 8), some (25, true)⟩,
          ⟨(some 27), .bin .eql (.t 26) (.c (.int .i64 2)), some (25, true)⟩,
          ⟨(some 28), .pick (.t 25) (.t 27) (.c (.b false)), none⟩,
          ⟨(some 29), .mv (.t 28), none⟩,
          ⟨(some 30), .call 25 [], some (29, true)⟩,
          ⟨(some 31), .pick (.t 29) (.t 30) (.c (.b false)), none⟩,
          ⟨(some 6), .mv (.t 31), none⟩])
        .ret)
       .skip))
     (.seq
      (.reg none [⟨(some 33), .mv (.t 0), none⟩,
        ⟨(some 34), .mv (.t 1), none⟩,
        ⟨(some 35), .mv (.t 2), none⟩,
        ⟨(some 36), .call 45 [(.t 33), (.t 34), (.t 35)], none⟩,
        ⟨(some 32), .mv (.t 36), none⟩,
        ⟨(some 37), .extr (.t 32) 0, none⟩,
        ⟨(some 38), .extr (.t 32) 1, none⟩,
        ⟨(some 9), .alloc [(.int .i64 0), .nils], none⟩,
        ⟨none, .store 2 (.t 9) (.t 37), none⟩,
        ⟨(some 10), .mv (.t 38), none⟩])
      (.seq
       (.reg (some []) [⟨(some 39), .load (some 2) (.t 7), none⟩,
         ⟨(some 40), .call 21 [(.t 39)], none⟩,
         ⟨(some 41), .load (some 2) (.t 9), none⟩,
         ⟨(some 42), .call 20 [(.t 40), (.t 41)], none⟩,
         ⟨(some 43), .mv (.t 42), none⟩,
         ⟨(some 44), .mv (.t 8), some (43, true)⟩,
         ⟨(some 45), .mv (.t 10), some (43, true)⟩,
         ⟨(some 46), .bin .eql (.t 44) (.t 45), some (43, true)⟩,
         ⟨(some 47), .pick (.t 43) (.t 46) (.c (.b false)), none⟩,
         ⟨(some 48), .mv (.t 47), none⟩,
         ⟨(some 49), .call 25 [], some (48, true)⟩,
         ⟨(some 50), .pick (.t 48) (.t 49) (.c (.b false)), none⟩,
         ⟨(some 6), .mv (.t 50), none⟩])
       .ret))))) }
theorem f6P : prepF C Try.f6 = some f6A := by kernel_rfl

/-- congou/congoulaw09.ArraysNoFewer -/
def f7A : AFunc :=
{ nargs := 1, res := [.t 2], body :=
  (.seq
   (.reg none [⟨(some 1), .box (.t 0), none⟩,
     ⟨(some 2), .mv (.c (.b false)), none⟩])
   (.seq
    (.reg none [⟨(some 7), .load (some 2) (.t 1), none⟩,
      ⟨(some 8), .call 32 [(.t 7)], none⟩,
      ⟨(some 9), .call 46 [(.t 8), (.c (.int .i64 2))], none⟩,
      ⟨(some 6), .mv (.t 9), none⟩,
      ⟨(some 10), .extr (.t 6) 0, none⟩,
      ⟨(some 11), .extr (.t 6) 1, none⟩,
      ⟨(some 3), .mv (.t 10), none⟩,
      ⟨(some 4), .mv (.t 11), none⟩])
    (.seq
     (.seq
      (.reg none [⟨(some 12), .mv (.t 4), none⟩,
        ⟨(some 13), .bin .neq (.t 12) (.c (.int .i64 0)), none⟩,
        ⟨(some 14), .mv (.t 13), none⟩,
        ⟨(some 15), .load (some 2) (.t 1), some (14, false)⟩,
        ⟨(some 16), .call 38 [(.t 15)], some (14, false)⟩,
        ⟨(some 17), .un .not (.t 16), some (14, false)⟩,
        ⟨(some 18), .pick (.t 14) (.c (.b true)) (.t 17), none⟩,
        ⟨(some 19), .mv (.t 18), none⟩,
        ⟨(some 20), .load (some 2) (.t 1), some (19, false)⟩,
        ⟨(some 21), .call 39 [(.t 20)], some (19, false)⟩,
        ⟨(some 22), .bin .lss (.t 21) (.c (.int .i64 2)), some (19, false)⟩,
        ⟨(some 23), .pick (.t 19) (.c (.b true)) (.t 22), none⟩])
      (.cond (.t 23)
       (.seq
        (.reg none [⟨(some 24), .mv (.t 4), none⟩,
          ⟨(some 25), .bin .eql (.t 24) (.c (.int .i64 2)), none⟩,
          ⟨(some 26), .mv (.t 25), none⟩,
          ⟨(some 27), .call 25 [], some (26, true)⟩,
          ⟨(some 28), .pick (.t 26) (.t 27) (.c (.b false)), none⟩,
          ⟨(some 2), .mv (.t 28), none⟩])
        .ret)
       .skip))
     (.seq
      (.seq
       (.reg none [⟨(some 29), .faddr 0 (.t 1), none⟩,
         ⟨(some 30), .load none (.t 29), none⟩,
         ⟨(some 31), .bin .neq (.t 30) (.c (.int .i64 2)), none⟩])
       (.cond (.t 31)
        (.seq
         (.reg none [⟨(some 32), .mv (.t 3), none⟩,
           ⟨(some 33), .un .not (.t 32), none⟩,
           ⟨(some 34), .mv (.t 33), none⟩,
           ⟨(some 35), .faddr 1 (.t 1), some (34, false)⟩,
           ⟨(some 36), .load none (.t 35), some (34, false)⟩,
           ⟨(some 37), .len (.t 36), some (34, false)⟩,
           ⟨(some 38), .faddr 0 (.t 1), some (34, false)⟩,
           ⟨(some 39), .load none (.t 38), some (34, false)⟩,
           ⟨(some 40), .faddr 0 (.t 1), some (34, false)⟩,
           ⟨(some 41), .load none (.t 40), some (34, false)⟩,
           ⟨(some 42), .bin .mul (.t 39) (.t 41), some (34, false)⟩,
           ⟨(some 43), .bin .geq (.t 37) (.t 42), some (34, false)⟩,
           ⟨(some 44), .pick (.t 34) (.c (.b true)) (.t 43), none⟩,
           ⟨(some 45), .mv (.t 44), none⟩,
           ⟨(some 46), .call 25 [], some (45, true)⟩,
           ⟨(some 47), .pick (.t 45) (.t 46) (.c (.b false)), none⟩,
           ⟨(some 2), .mv (.t 47), none⟩])
         .ret)
        .skip))
      (.seq
       (.reg none [⟨(some 49), .load (some 2) (.t 1), none⟩,
         ⟨(some 50), .call 39 [(.t 49)], none⟩,
         ⟨(some 51), .call 27 [(.t 50)], none⟩,
         ⟨(some 48), .mv (.t 51), none⟩,
         ⟨(some 52), .extr (.t 48) 0, none⟩,
         ⟨(some 53), .extr (.t 48) 1, none⟩,
         ⟨(some 5), .mv (.t 52), none⟩,
         ⟨(some 4), .mv (.t 53), none⟩])
       (.seq
        (.reg none [⟨(some 54), .mv (.t 4), none⟩,
          ⟨(some 55), .bin .eql (.t 54) (.c (.int .i64 0)), none⟩,
          ⟨(some 56), .mv (.t 55), none⟩,
          ⟨(some 57), .mv (.t 3), some (56, true)⟩,
          ⟨(some 58), .un .not (.t 57), some (56, true)⟩,
          ⟨(some 59), .mv (.t 58), some (56, true)⟩,
          ⟨(some 60), .faddr 1 (.t 1), some (59, false)⟩,
          ⟨(some 61), .load none (.t 60), some (59, false)⟩,
          ⟨(some 62), .len (.t 61), some (59, false)⟩,
          ⟨(some 63), .mv (.t 5), some (59, false)⟩,
          ⟨(some 64), .bin .geq (.t 62) (.t 63), some (59, false)⟩,
          ⟨(some 65), .pick (.t 59) (.c (.b true)) (.t 64), some (56, true)⟩,
          ⟨(some 66), .pick (.t 56) (.t 65) (.c (.b false)), none⟩,
          ⟨(some 67), .mv (.t 66), none⟩,
          ⟨(some 68), .call 25 [], some (67, true)⟩,
          ⟨(some 69), .pick (.t 67) (.t 68) (.c (.b false)), none⟩,
          ⟨(some 2), .mv (.t 69), none⟩])
        .ret)))))) }
theorem f7P : prepF C Try.f7 = some f7A := by kernel_rfl

/-- congou/congoulaw09.ArraysDistances -/
def f8A : AFunc :=
{ nargs := 2, res := [.t 4], body :=
  (.seq
   (.reg none [⟨(some 2), .box (.t 0), none⟩,
     ⟨(some 4), .mv (.c (.b false)), none⟩])
   (.seq
    (.reg none [⟨(some 15), .load (some 2) (.t 2), none⟩,
      ⟨(some 16), .call 32 [(.t 15)], none⟩,
      ⟨(some 17), .call 47 [(.t 16)], none⟩,
      ⟨(some 14), .mv (.t 17), none⟩,
      ⟨(some 18), .extr (.t 14) 0, none⟩,
      ⟨(some 19), .extr (.t 14) 1, none⟩,
      ⟨(some 5), .mv (.t 18), none⟩,
      ⟨(some 6), .mv (.t 19), none⟩])
    (.seq
     (.reg none [⟨(some 21), .load (some 2) (.t 2), none⟩,
       ⟨(some 22), .call 32 [(.t 21)], none⟩,
       ⟨(some 23), .mv (.t 1), none⟩,
       ⟨(some 24), .call 48 [(.t 22), (.t 23)], none⟩,
       ⟨(some 20), .mv (.t 24), none⟩,
       ⟨(some 25), .extr (.t 20) 0, none⟩,
       ⟨(some 26), .extr (.t 20) 1, none⟩,
       ⟨(some 7), .mv (.t 25), none⟩,
       ⟨(some 8), .mv (.t 26), none⟩])
     (.seq
      (.reg none [⟨(some 28), .load (some 2) (.t 2), none⟩,
        ⟨(some 29), .call 32 [(.t 28)], none⟩,
        ⟨(some 30), .call 49 [(.t 29)], none⟩,
        ⟨(some 27), .mv (.t 30), none⟩,
        ⟨(some 31), .extr (.t 27) 0, none⟩,
        ⟨(some 32), .extr (.t 27) 1, none⟩,
        ⟨(some 9), .mv (.t 31), none⟩,
        ⟨(some 10), .mv (.t 32), none⟩])
      (.seq
       (.seq
        (.reg none [⟨(some 33), .load (some 2) (.t 2), none⟩,
          ⟨(some 34), .call 38 [(.t 33)], none⟩,
          ⟨(some 35), .un .not (.t 34), none⟩])
        (.cond (.t 35)
         (.seq
          (.reg none [⟨(some 36), .mv (.t 5), none⟩,
            ⟨(some 37), .bin .eql (.t 36) (.c (.int .i64 0)), none⟩,
            ⟨(some 38), .mv (.t 37), none⟩,
            ⟨(some 39), .mv (.t 7), some (38, true)⟩,
            ⟨(some 40), .bin .eql (.t 39) (.c (.int .i64 0)), some (38, true)⟩,
            ⟨(some 41), .pick (.t 38) (.t 40) (.c (.b false)), none⟩,
            ⟨(some 42), .mv (.t 41), none⟩,
            ⟨(some 43), .mv (.t 9), some (42, true)⟩,
            ⟨(some 44), .bin .eql (.t 43) (.c (.int .i64 0)), some (42, true)⟩,
            ⟨(some 45), .pick (.t 42) (.t 44) (.c (.b false)), none⟩,
            ⟨(some 46), .mv (.t 45), none⟩,
            ⟨(some 47), .mv (.t 6), some (46, true)⟩,
            ⟨(some 48), .bin .eql (.t 47) (.c (.int .i64 2)), some (46, true)⟩,
            ⟨(some 49), .pick (.t 46) (.t 48) (.c (.b false)), none⟩,
            ⟨(some 50), .mv (.t 49), none⟩,
            ⟨(some 51), .mv (.t 8), some (50, true)⟩,
            ⟨(some 52), .bin .eql (.t 51) (.c (.int .i64 2)), some (50, true)⟩,
            ⟨(some 53), .pick (.t 50) (.t 52) (.c (.b false)), none⟩,
            ⟨(some 54), .mv (.t 53), none⟩,
            ⟨(some 55), .mv (.t 10), some (54, true)⟩,
            ⟨(some 56), .bin .eql (.t 55) (.c (.int .i64 2)), some (54, true)⟩,
            ⟨(some 57), .pick (.t 54) (.t 56) (.c (.b false)), none⟩,
            ⟨(some 58), .mv (.t 57), none⟩,
            ⟨(some 59), .call 25 [], some (58, true)⟩,
            ⟨(some 60), .pick (.t 58) (.t 59) (.c (.b false)), none⟩,
            ⟨(some 4), .mv (.t 60), none⟩])
          .ret)
         .skip))
       (.seq
        (.reg none [⟨(some 62), .load (some 2) (.t 2), none⟩,
          ⟨(some 63), .call 50 [(.t 62)], none⟩,
          ⟨(some 61), .mv (.t 63), none⟩,
          ⟨(some 64), .extr (.t 61) 0, none⟩,
          ⟨(some 65), .extr (.t 61) 1, none⟩,
          ⟨(some 11), .mv (.t 64), none⟩,
          ⟨(some 12), .mv (.t 65), none⟩])
        (.seq
         (.seq
          (.reg none [⟨(some 66), .mv (.t 5), none⟩,
            ⟨(some 67), .mv (.t 11), none⟩,
            ⟨(some 68), .bin .neq (.t 66) (.t 67), none⟩,
            ⟨(some 69), .mv (.t 68), none⟩,
            ⟨(some 70), .mv (.t 6), some (69, false)⟩,
            ⟨(some 71), .mv (.t 12), some (69, false)⟩,
            ⟨(some 72), .bin .neq (.t 70) (.t 71), some (69, false)⟩,
            ⟨(some 73), .pick (.t 69) (.c (.b true)) (.t 72), none⟩,
            ⟨(some 74), .mv (.t 73), none⟩,
            ⟨(some 75), .mv (.t 9), some (74, false)⟩,
            ⟨(some 76), .load (some 2) (.t 2), some (74, false)⟩,
            ⟨(some 77), .call 51 [(.t 76)], some (74, false)⟩,
            ⟨(some 78), .bin .neq (.t 75) (.t 77), some (74, false)⟩,
            ⟨(some 79), .pick (.t 74) (.c (.b true)) (.t 78), none⟩,
            ⟨(some 80), .mv (.t 79), none⟩,
            ⟨(some 81), .mv (.t 10), some (80, false)⟩,
            ⟨(some 82), .bin .neq (.t 81) (.c (.int .i64 0)), some (80, false)⟩,
            ⟨(some 83), .pick (.t 80) (.c (.b true)) (.t 82), none⟩,
            ⟨(some 84), .mv (.t 83), none⟩,
            ⟨(some 85), .call 25 [], some (84, false)⟩,
            ⟨(some 86), .un .not (.t 85), some (84, false)⟩,
            ⟨(some 87), .pick (.t 84) (.c (.b true)) (.t 86), none⟩])
          (.cond (.t 87)
           (.seq
            (.reg none [⟨(some 4), .mv (.c (.b false)), none⟩])
            .ret)
           .skip))
         (.seq
          (.seq
           (.reg none [⟨(some 88), .load (some 2) (.t 2), none⟩,
             ⟨(some 89), .mv (.t 1), none⟩,
             ⟨(some 90), .call 52 [(.t 88), (.t 89)], none⟩,
             ⟨(some 91), .un .not (.t 90), none⟩])
           (.cond (.t 91)
            (.seq
             (.reg none [⟨(some 92), .mv (.t 7), none⟩,
               ⟨(some 93), .bin .eql (.t 92) (.c (.int .i64 0)), none⟩,
               ⟨(some 94), .mv (.t 93), none⟩,
               ⟨(some 95), .mv (.t 8), some (94, true)⟩,
               ⟨(some 96), .bin .eql (.t 95) (.c (.int .i64 2)), some (94, true)⟩,
               ⟨(some 97), .pick (.t 94) (.t 96) (.c (.b false)), none⟩,
               ⟨(some 4), .mv (.t 97), none⟩])
             .ret)
            .skip))
          (.seq
           (.reg none [⟨(some 99), .load (some 2) (.t 2), none⟩,
             ⟨(some 100), .mv (.t 1), none⟩,
             ⟨(some 101), .call 53 [(.t 99), (.t 100)], none⟩,
             ⟨(some 98), .mv (.t 101), none⟩,
             ⟨(some 102), .extr (.t 98) 0, none⟩,
             ⟨(some 103), .extr (.t 98) 1, none⟩,
             ⟨(some 13), .mv (.t 102), none⟩,
             ⟨(some 12), .mv (.t 103), none⟩])
           (.seq
            (.reg none [⟨(some 104), .mv (.t 7), none⟩,
              ⟨(some 105), .mv (.t 13), none⟩,
              ⟨(some 106), .bin .eql (.t 104) (.t 105), none⟩,
              ⟨(some 107), .mv (.t 106), none⟩,
              ⟨(some 108), .mv (.t 8), some (107, true)⟩,
              ⟨(some 109), .mv (.t 12), some (107, true)⟩,
              ⟨(some 110), .bin .eql (.t 108) (.t 109), some (107, true)⟩,
              ⟨(some 111), .pick (.t 107) (.t 110) (.c (.b false)), none⟩,
              ⟨(some 4), .mv (.t 111), none⟩])
            .ret)))))))))) }
theorem f8P : prepF C Try.f8 = some f8A := by kernel_rfl

/-- congou/congoulaw09.ArraysAdds -/
def f9A : AFunc :=
{ nargs := 2, res := [.t 4], body :=
  (.seq
   (.reg none [⟨(some 2), .box (.t 0), none⟩,
     ⟨(some 4), .mv (.c (.b false)), none⟩])
   (.seq
    (.reg none [⟨(some 8), .load (some 2) (.t 2), none⟩,
      ⟨(some 9), .call 32 [(.t 8)], none⟩,
      ⟨(some 10), .mv (.t 1), none⟩,
      ⟨(some 11), .call 54 [(.t 9), (.t 10)], none⟩,
      ⟨(some 7), .mv (.t 11), none⟩,
      ⟨(some 12), .extr (.t 7) 0, none⟩,
      ⟨(some 13), .extr (.t 7) 1, none⟩,
      ⟨(some 5), .mv (.t 12), none⟩,
      ⟨(some 6), .mv (.t 13), none⟩])
    (.seq
     (.seq
      (.reg none [⟨(some 14), .load (some 2) (.t 2), none⟩,
        ⟨(some 15), .call 38 [(.t 14)], none⟩,
        ⟨(some 16), .un .not (.t 15), none⟩,
        ⟨(some 17), .mv (.t 16), none⟩,
        ⟨(some 18), .load (some 2) (.t 2), some (17, false)⟩,
        ⟨(some 19), .mv (.t 1), some (17, false)⟩,
        ⟨(some 20), .call 52 [(.t 18), (.t 19)], some (17, false)⟩,
        ⟨(some 21), .un .not (.t 20), some (17, false)⟩,
        ⟨(some 22), .pick (.t 17) (.c (.b true)) (.t 21), none⟩,
        ⟨(some 23), .mv (.t 22), none⟩,
        ⟨(some 24), .load (some 2) (.t 2), some (23, false)⟩,
        ⟨(some 25), .call 39 [(.t 24)], some (23, false)⟩,
        ⟨(some 26), .bin .gtr (.t 25) (.c (.int .i64 4)), some (23, false)⟩,
        ⟨(some 27), .pick (.t 23) (.c (.b true)) (.t 26), none⟩])
      (.cond (.t 27)
       (.seq
        (.reg none [⟨(some 28), .mv (.t 5), none⟩,
          ⟨(some 29), .len (.t 28), none⟩,
          ⟨(some 30), .bin .eql (.t 29) (.c (.int .i64 0)), none⟩,
          ⟨(some 31), .mv (.t 30), none⟩,
          ⟨(some 32), .mv (.t 6), some (31, true)⟩,
          ⟨(some 33), .bin .eql (.t 32) (.c (.int .i64 2)), some (31, true)⟩,
          ⟨(some 34), .pick (.t 31) (.t 33) (.c (.b false)), none⟩,
          ⟨(some 35), .mv (.t 34), none⟩,
          ⟨(some 36), .call 25 [], some (35, true)⟩,
          ⟨(some 37), .pick (.t 35) (.t 36) (.c (.b false)), none⟩,
          ⟨(some 4), .mv (.t 37), none⟩])
        .ret)
       .skip))
     (.seq
      (.reg none [⟨(some 38), .mv (.t 5), none⟩,
        ⟨(some 39), .load (some 2) (.t 2), none⟩,
        ⟨(some 40), .mv (.t 1), none⟩,
        ⟨(some 41), .call 56 [(.t 39), (.t 40)], none⟩,
        ⟨(some 42), .call 55 [(.t 38), (.t 41)], none⟩,
        ⟨(some 43), .mv (.t 42), none⟩,
        ⟨(some 44), .mv (.t 6), some (43, true)⟩,
        ⟨(some 45), .bin .eql (.t 44) (.c (.int .i64 0)), some (43, true)⟩,
        ⟨(some 46), .pick (.t 43) (.t 45) (.c (.b false)), none⟩,
        ⟨(some 47), .mv (.t 46), none⟩,
        ⟨(some 48), .call 25 [], some (47, true)⟩,
        ⟨(some 49), .pick (.t 47) (.t 48) (.c (.b false)), none⟩,
        ⟨(some 4), .mv (.t 49), none⟩])
      .ret)))) }
theorem f9P : prepF C Try.f9 = some f9A := by kernel_rfl

/-- congou/congoulaw09.ArraysPlane -/
def f10A : AFunc :=
{ nargs := 1, res := [.t 2], body :=
  (.seq
   (.reg none [⟨(some 2), .mv (.c (.b false)), none⟩])
   (.seq
    (.reg none [⟨(some 17), .mv (.t 0), none⟩,
      ⟨(some 18), .conv .u64 (.t 17), none⟩,
      ⟨(some 19), .bin .rem (.t 18) (.c (.int .u64 2)), none⟩,
      ⟨(some 20), .conv .i64 (.t 19), none⟩,
      ⟨(some 21), .bin .add (.c (.int .i64 2)) (.t 20), none⟩,
      ⟨(some 0), .mv (.t 21), none⟩])
    (.seq
     (.reg none [⟨(some 23), .mv (.t 0), none⟩,
       ⟨(some 24), .call 18 [(.t 23)], none⟩,
       ⟨(some 22), .mv (.t 24), none⟩,
       ⟨(some 25), .extr (.t 22) 0, none⟩,
       ⟨(some 26), .extr (.t 22) 1, none⟩,
       ⟨(some 3), .alloc [(.int .i64 0), .nils], none⟩,
       ⟨none, .store 2 (.t 3) (.t 25), none⟩,
       ⟨(some 4), .mv (.t 26), none⟩])
     (.seq
      (.seq
       (.reg none [⟨(some 27), .mv (.t 4), none⟩,
         ⟨(some 28), .bin .neq (.t 27) (.c (.int .i64 0)), none⟩,
         ⟨(some 29), .mv (.t 28), none⟩,
         ⟨(some 30), .load (some 2) (.t 3), some (29, false)⟩,
         ⟨(some 31), .call 21 [(.t 30)], some (29, false)⟩,
         ⟨(some 32), .call 38 [(.t 31)], some (29, false)⟩,
         ⟨(some 33), .un .not (.t 32), some (29, false)⟩,
         ⟨(some 34), .pick (.t 29) (.c (.b true)) (.t 33), none⟩,
         ⟨(some 35), .mv (.t 34), none⟩,
         ⟨(some 36), .faddr 0 (.t 3), some (35, false)⟩,
         ⟨(some 37), .load none (.t 36), some (35, false)⟩,
         ⟨(some 38), .mv (.t 0), some (35, false)⟩,
         ⟨(some 39), .bin .neq (.t 37) (.t 38), some (35, false)⟩,
         ⟨(some 40), .pick (.t 35) (.c (.b true)) (.t 39), none⟩,
         ⟨(some 41), .mv (.t 40), none⟩,
         ⟨(some 42), .faddr 1 (.t 3), some (41, false)⟩,
         ⟨(some 43), .load none (.t 42), some (41, false)⟩,
         ⟨(some 44), .len (.t 43), some (41, false)⟩,
         ⟨(some 45), .mv (.t 0), some (41, false)⟩,
         ⟨(some 46), .mv (.t 0), some (41, false)⟩,
         ⟨(some 47), .bin .mul (.t 45) (.t 46), some (41, false)⟩,
         ⟨(some 48), .bin .neq (.t 44) (.t 47), some (41, false)⟩,
         ⟨(some 49), .pick (.t 41) (.c (.b true)) (.t 48), none⟩,
         ⟨(some 50), .mv (.t 49), none⟩,
         ⟨(some 51), .load (some 2) (.t 3), some (50, false)⟩,
         ⟨(some 52), .call 21 [(.t 51)], some (50, false)⟩,
         ⟨(some 53), .call 39 [(.t 52)], some (50, false)⟩,
         ⟨(some 54), .mv (.t 0), some (50, false)⟩,
         ⟨(some 55), .bin .add (.t 54) (.c (.int .i64 1)), some (50, false)⟩,
         ⟨(some 56), .bin .neq (.t 53) (.t 55), some (50, false)⟩,
         ⟨(some 57), .pick (.t 50) (.c (.b true)) (.t 56), none⟩])
       (.cond (.t 57)
        (.seq
         (.reg none [⟨(some 2), .mv (.c (.b false)), none⟩])
         .ret)
        .skip))
      (.seq
       (.reg none [⟨(some 59), .load (some 2) (.t 3), none⟩,
         ⟨(some 60), .call 21 [(.t 59)], none⟩,
         ⟨(some 61), .call 32 [(.t 60)], none⟩,
         ⟨(some 62), .call 57 [(.t 61), (.c (.int .i64 2))], none⟩,
         ⟨(some 58), .mv (.t 62), none⟩,
         ⟨(some 63), .extr (.t 58) 0, none⟩,
         ⟨(some 64), .extr (.t 58) 1, none⟩,
         ⟨(some 5), .mv (.t 63), none⟩,
         ⟨(some 6), .mv (.t 64), none⟩])
       (.seq
        (.reg none [⟨(some 66), .load (some 2) (.t 3), none⟩,
          ⟨(some 67), .call 21 [(.t 66)], none⟩,
          ⟨(some 68), .call 32 [(.t 67)], none⟩,
          ⟨(some 69), .call 48 [(.t 68), (.c (.int .i64 2))], none⟩,
          ⟨(some 65), .mv (.t 69), none⟩,
          ⟨(some 70), .extr (.t 65) 0, none⟩,
          ⟨(some 71), .extr (.t 65) 1, none⟩,
          ⟨(some 7), .mv (.t 70), none⟩,
          ⟨(some 8), .mv (.t 71), none⟩])
        (.seq
         (.reg none [⟨(some 73), .load (some 2) (.t 3), none⟩,
           ⟨(some 74), .call 21 [(.t 73)], none⟩,
           ⟨(some 75), .call 32 [(.t 74)], none⟩,
           ⟨(some 76), .call 47 [(.t 75)], none⟩,
           ⟨(some 72), .mv (.t 76), none⟩,
           ⟨(some 77), .extr (.t 72) 0, none⟩,
           ⟨(some 78), .extr (.t 72) 1, none⟩,
           ⟨(some 9), .mv (.t 77), none⟩,
           ⟨(some 10), .mv (.t 78), none⟩])
         (.seq
          (.seq
           (.reg none [⟨(some 79), .faddr 1 (.t 3), none⟩,
             ⟨(some 80), .load none (.t 79), none⟩,
             ⟨(some 81), .len (.t 80), none⟩,
             ⟨(some 82), .mv (.c (.int .i64 0)), none⟩])
           (.block 0
            (.loop
             (.seq
              (.reg none [⟨(some 83), .bin .lss (.t 82) (.t 81), none⟩])
              (.seq
               (.cond (.t 83)
                .skip
                (.exit 0))
               (.seq
                (.block 1
                 (.seq
                  (.reg none [⟨(some 84), .mv (.t 82), none⟩,
                    ⟨(some 85), .iaddr 1 (.t 80) (.t 82), none⟩,
                    ⟨(some 86), .load none (.t 85), none⟩,
                    ⟨(some 11), .mv (.t 84), none⟩,
                    ⟨(some 12), .mv (.t 86), none⟩])
                  (.seq
                   (.reg none [⟨(some 87), .faddr 1 (.t 3), none⟩,
                     ⟨(some 88), .load none (.t 87), none⟩,
                     ⟨(some 89), .mv (.t 11), none⟩,
                     ⟨(some 90), .slice 1 (.t 88) none (some (.t 89)) none, none⟩,
                     ⟨(some 91), .len (.t 90), none⟩,
                     ⟨(some 92), .mv (.c (.int .i64 0)), none⟩])
                   (.block 2
                    (.loop
                     (.seq
                      (.reg none [⟨(some 93), .bin .lss (.t 92) (.t 91), none⟩])
                      (.seq
                       (.cond (.t 93)
                        .skip
                        (.exit 2))
                       (.seq
                        (.block 3
                         (.seq
                          (.reg none [⟨(some 94), .iaddr 1 (.t 90) (.t 92), none⟩,
                            ⟨(some 95), .load none (.t 94), none⟩,
                            ⟨(some 14), .mv (.t 95), none⟩])
                          (.seq
                           (.reg none [⟨(some 15), .mv (.c (.int .i64 0)), none⟩])
                           (.seq
                            (.seq
                             (.reg none [⟨(some 96), .mv (.t 12), none⟩,
                               ⟨(some 97), .len (.t 96), none⟩,
                               ⟨(some 98), .mv (.c (.int .i64 0)), none⟩])
                             (.block 4
                              (.loop
                               (.seq
                                (.reg none [⟨(some 99), .bin .lss (.t 98) (.t 97), none⟩])
                                (.seq
                                 (.cond (.t 99)
                                  .skip
                                  (.exit 4))
                                 (.seq
                                  (.block 5
                                   (.seq
                                    (.reg none [⟨(some 100), .mv (.t 98), none⟩,
                                      ⟨(some 16), .mv (.t 100), none⟩])
                                    (.seq
                                     (.reg (some []) [⟨(some 101), .mv (.t 12), none⟩,
                                       ⟨(some 102), .mv (.t 16), none⟩,
                                       ⟨(some 103), .iaddr 1 (.t 101) (.t 102), none⟩,
                                       ⟨(some 104), .load none (.t 103), none⟩,
                                       ⟨(some 105), .mv (.t 14), none⟩,
                                       ⟨(some 106), .mv (.t 16), none⟩,
                                       ⟨(some 107), .iaddr 1 (.t 105) (.t 106), none⟩,
                                       ⟨(some 108), .load none (.t 107), none⟩,
                                       ⟨(some 109), .bin .eql (.t 104) (.t 108), none⟩])
                                     (.cond (.t 109)
                                      (.reg none [⟨(some 110), .mv (.t 15), none⟩,
                                        ⟨(some 111), .bin .add (.t 110) (.c (.int .i64 1)), none⟩,
                                        ⟨(some 15), .mv (.t 111), none⟩])
                                      .skip))))
                                  (.reg none [⟨(some 112), .bin .add (.t 98) (.c (.int .i64 1)), none⟩,
                                    ⟨(some 98), .mv (.t 112), none⟩])))))))
                            (.seq
                             (.reg none [⟨(some 113), .mv (.t 15), none⟩,
                               ⟨(some 114), .bin .neq (.t 113) (.c (.int .i64 1)), none⟩])
                             (.cond (.t 114)
                              (.seq
                               (.reg none [⟨(some 2), .mv (.c (.b false)), none⟩])
                               .ret)
                              .skip))))))
                        (.reg none [⟨(some 115), .bin .add (.t 92) (.c (.int .i64 1)), none⟩,
                          ⟨(some 92), .mv (.t 115), none⟩])))))))))
                (.reg none [⟨(some 116), .bin .add (.t 82) (.c (.int .i64 1)), none⟩,
                  ⟨(some 82), .mv (.t 116), none⟩])))))))
          (.seq
           (.reg none [⟨(some 117), .mv (.t 5), none⟩,
             ⟨(some 118), .mv (.t 117), none⟩,
             ⟨(some 119), .mv (.t 6), some (118, true)⟩,
             ⟨(some 120), .bin .eql (.t 119) (.c (.int .i64 0)), some (118, true)⟩,
             ⟨(some 121), .pick (.t 118) (.t 120) (.c (.b false)), none⟩,
             ⟨(some 122), .mv (.t 121), none⟩,
             ⟨(some 123), .mv (.t 7), some (122, true)⟩,
             ⟨(some 124), .bin .eql (.t 123) (.c (.int .i64 1)), some (122, true)⟩,
             ⟨(some 125), .pick (.t 122) (.t 124) (.c (.b false)), none⟩,
             ⟨(some 126), .mv (.t 125), none⟩,
             ⟨(some 127), .mv (.t 8), some (126, true)⟩,
             ⟨(some 128), .bin .eql (.t 127) (.c (.int .i64 0)), some (126, true)⟩,
             ⟨(some 129), .pick (.t 126) (.t 128) (.c (.b false)), none⟩,
             ⟨(some 130), .mv (.t 129), none⟩,
             ⟨(some 131), .mv (.t 9), some (130, true)⟩,
             ⟨(some 132), .mv (.t 0), some (130, true)⟩,
             ⟨(some 133), .bin .eql (.t 131) (.t 132), some (130, true)⟩,
             ⟨(some 134), .pick (.t 130) (.t 133) (.c (.b false)), none⟩,
             ⟨(some 135), .mv (.t 134), none⟩,
             ⟨(some 136), .mv (.t 10), some (135, true)⟩,
             ⟨(some 137), .bin .eql (.t 136) (.c (.int .i64 0)), some (135, true)⟩,
             ⟨(some 138), .pick (.t 135) (.t 137) (.c (.b false)), none⟩,
             ⟨(some 139), .mv (.t 138), none⟩,
             ⟨(some 140), .call 25 [], some (139, true)⟩,
             ⟨(some 141), .pick (.t 139) (.t 140) (.c (.b false)), none⟩,
             ⟨(some 2), .mv (.t 141), none⟩])
           .ret))))))))) }
theorem f10P : prepF C Try.f10 = some f10A := by kernel_rfl

/-- congou/congoulaw09.ArraysFair -/
def f11A : AFunc :=
{ nargs := 2, res := [.t 4], body :=
  (.seq
   (.reg none [⟨(some 2), .box (.t 0), none⟩,
     ⟨(some 4), .mv (.c (.b false)), none⟩])
   (.seq
    (.reg none [⟨(some 17), .load (some 2) (.t 2), none⟩,
      ⟨(some 18), .call 32 [(.t 17)], none⟩,
      ⟨(some 19), .mv (.t 1), none⟩,
      ⟨(some 20), .call 57 [(.t 18), (.t 19)], none⟩,
      ⟨(some 16), .mv (.t 20), none⟩,
      ⟨(some 21), .extr (.t 16) 0, none⟩,
      ⟨(some 22), .extr (.t 16) 1, none⟩,
      ⟨(some 5), .mv (.t 21), none⟩,
      ⟨(some 6), .mv (.t 22), none⟩])
    (.seq
     (.reg none [⟨(some 24), .load (some 2) (.t 2), none⟩,
       ⟨(some 25), .call 32 [(.t 24)], none⟩,
       ⟨(some 26), .mv (.t 1), none⟩,
       ⟨(some 27), .call 48 [(.t 25), (.t 26)], none⟩,
       ⟨(some 23), .mv (.t 27), none⟩,
       ⟨(some 28), .extr (.t 23) 0, none⟩,
       ⟨(some 29), .extr (.t 23) 1, none⟩,
       ⟨(some 7), .mv (.t 28), none⟩,
       ⟨(some 8), .mv (.t 29), none⟩])
     (.seq
      (.reg none [⟨(some 31), .load (some 2) (.t 2), none⟩,
        ⟨(some 32), .call 32 [(.t 31)], none⟩,
        ⟨(some 33), .call 49 [(.t 32)], none⟩,
        ⟨(some 30), .mv (.t 33), none⟩,
        ⟨(some 34), .extr (.t 30) 0, none⟩,
        ⟨(some 35), .extr (.t 30) 1, none⟩,
        ⟨(some 9), .mv (.t 34), none⟩,
        ⟨(some 10), .mv (.t 35), none⟩])
      (.seq
       (.seq
        (.reg none [⟨(some 36), .mv (.t 6), none⟩,
          ⟨(some 37), .bin .neq (.t 36) (.c (.int .i64 0)), none⟩,
          ⟨(some 38), .mv (.t 37), none⟩,
          ⟨(some 39), .load (some 2) (.t 2), some (38, false)⟩,
          ⟨(some 40), .call 38 [(.t 39)], some (38, false)⟩,
          ⟨(some 41), .un .not (.t 40), some (38, false)⟩,
          ⟨(some 42), .pick (.t 38) (.c (.b true)) (.t 41), none⟩,
          ⟨(some 43), .mv (.t 42), none⟩,
          ⟨(some 44), .load (some 2) (.t 2), some (43, false)⟩,
          ⟨(some 45), .mv (.t 1), some (43, false)⟩,
          ⟨(some 46), .call 52 [(.t 44), (.t 45)], some (43, false)⟩,
          ⟨(some 47), .un .not (.t 46), some (43, false)⟩,
          ⟨(some 48), .pick (.t 43) (.c (.b true)) (.t 47), none⟩])
        (.cond (.t 48)
         (.seq
          (.reg none [⟨(some 49), .mv (.t 6), none⟩,
            ⟨(some 50), .bin .eql (.t 49) (.c (.int .i64 2)), none⟩,
            ⟨(some 51), .mv (.t 50), none⟩,
            ⟨(some 52), .call 25 [], some (51, true)⟩,
            ⟨(some 53), .pick (.t 51) (.t 52) (.c (.b false)), none⟩,
            ⟨(some 4), .mv (.t 53), none⟩])
          .ret)
         .skip))
       (.seq
        (.seq
         (.reg none [⟨(some 54), .mv (.t 10), none⟩,
           ⟨(some 55), .bin .neq (.t 54) (.c (.int .i64 0)), none⟩,
           ⟨(some 56), .mv (.t 55), none⟩,
           ⟨(some 57), .mv (.t 5), some (56, false)⟩,
           ⟨(some 58), .mv (.t 9), some (56, false)⟩,
           ⟨(some 59), .mv (.t 1), some (56, false)⟩,
           ⟨(some 60), .bin .geq (.t 58) (.t 59), some (56, false)⟩,
           ⟨(some 61), .beq true (.t 57) (.t 60), some (56, false)⟩,
           ⟨(some 62), .pick (.t 56) (.c (.b true)) (.t 61), none⟩,
           ⟨(some 63), .mv (.t 62), none⟩,
           ⟨(some 64), .mv (.t 8), some (63, false)⟩,
           ⟨(some 65), .bin .eql (.t 64) (.c (.int .i64 0)), some (63, false)⟩,
           ⟨(some 66), .mv (.t 5), some (63, false)⟩,
           ⟨(some 67), .beq true (.t 65) (.t 66), some (63, false)⟩,
           ⟨(some 68), .pick (.t 63) (.c (.b true)) (.t 67), none⟩,
           ⟨(some 69), .mv (.t 68), none⟩,
           ⟨(some 70), .mv (.t 8), some (69, false)⟩,
           ⟨(some 71), .bin .neq (.t 70) (.c (.int .i64 0)), some (69, false)⟩,
           ⟨(some 72), .mv (.t 71), some (69, false)⟩,
           ⟨(some 73), .mv (.t 8), some (72, true)⟩,
           ⟨(some 74), .bin .neq (.t 73) (.c (.int .i64 4)), some (72, true)⟩,
           ⟨(some 75), .pick (.t 72) (.t 74) (.c (.b false)), some (69, false)⟩,
           ⟨(some 76), .pick (.t 69) (.c (.b true)) (.t 75), none⟩])
         (.cond (.t 76)
          (.seq
           (.reg none [⟨(some 4), .mv (.c (.b false)), none⟩])
           .ret)
          .skip))
        (.seq
         (.seq
          (.reg none [⟨(some 77), .mv (.t 5), none⟩,
            ⟨(some 78), .un .not (.t 77), none⟩])
          (.cond (.t 78)
           (.seq
            (.reg none [⟨(some 79), .call 25 [], none⟩,
              ⟨(some 4), .mv (.t 79), none⟩])
            .ret)
           .skip))
         (.seq
          (.reg none [⟨(some 81), .load (some 2) (.t 2), none⟩,
            ⟨(some 82), .call 32 [(.t 81)], none⟩,
            ⟨(some 83), .mv (.t 1), none⟩,
            ⟨(some 84), .call 46 [(.t 82), (.t 83)], none⟩,
            ⟨(some 80), .mv (.t 84), none⟩,
            ⟨(some 85), .extr (.t 80) 0, none⟩,
            ⟨(some 86), .extr (.t 80) 1, none⟩,
            ⟨(some 11), .mv (.t 85), none⟩,
            ⟨(some 6), .mv (.t 86), none⟩])
          (.seq
           (.reg (some []) [⟨(some 88), .faddr 0 (.t 2), none⟩,
             ⟨(some 89), .load none (.t 88), none⟩,
             ⟨(some 90), .load (some 2) (.t 2), none⟩,
             ⟨(some 91), .call 39 [(.t 90)], none⟩,
             ⟨(some 92), .mv (.t 1), none⟩,
             ⟨(some 93), .call 19 [(.t 89), (.t 91), (.t 92)], none⟩,
             ⟨(some 87), .mv (.t 93), none⟩,
             ⟨(some 94), .extr (.t 87) 0, none⟩,
             ⟨(some 95), .extr (.t 87) 1, none⟩,
             ⟨(some 12), .mv (.t 94), none⟩,
             ⟨(some 13), .mv (.t 95), none⟩])
           (.seq
            (.seq
             (.reg (some []) [⟨(some 96), .mv (.t 11), none⟩,
               ⟨(some 97), .un .not (.t 96), none⟩,
               ⟨(some 98), .mv (.t 97), none⟩,
               ⟨(some 99), .mv (.t 6), some (98, false)⟩,
               ⟨(some 100), .bin .neq (.t 99) (.c (.int .i64 0)), some (98, false)⟩,
               ⟨(some 101), .pick (.t 98) (.c (.b true)) (.t 100), none⟩,
               ⟨(some 102), .mv (.t 101), none⟩,
               ⟨(some 103), .mv (.t 13), some (102, false)⟩,
               ⟨(some 104), .bin .neq (.t 103) (.c (.int .i64 0)), some (102, false)⟩,
               ⟨(some 105), .pick (.t 102) (.c (.b true)) (.t 104), none⟩,
               ⟨(some 106), .mv (.t 105), none⟩,
               ⟨(some 107), .faddr 1 (.t 2), some (106, false)⟩,
               ⟨(some 108), .load none (.t 107), some (106, false)⟩,
               ⟨(some 109), .len (.t 108), some (106, false)⟩,
               ⟨(some 110), .mv (.t 7), some (106, false)⟩,
               ⟨(some 111), .faddr 0 (.t 2), some (106, false)⟩,
               ⟨(some 112), .load none (.t 111), some (106, false)⟩,
               ⟨(some 113), .mv (.t 1), some (106, false)⟩,
               ⟨(some 114), .call 58 [(.t 112), (.t 113)], some (106, false)⟩,
               ⟨(some 115), .bin .mul (.t 110) (.t 114), some (106, false)⟩,
               ⟨(some 116), .bin .neq (.t 109) (.t 115), some (106, false)⟩,
               ⟨(some 117), .pick (.t 106) (.c (.b true)) (.t 116), none⟩,
               ⟨(some 118), .mv (.t 117), none⟩,
               ⟨(some 119), .faddr 1 (.t 2), some (118, false)⟩,
               ⟨(some 120), .load none (.t 119), some (118, false)⟩,
               ⟨(some 121), .len (.t 120), some (118, false)⟩,
               ⟨(some 122), .mv (.t 12), some (118, false)⟩,
               ⟨(some 123), .bin .lss (.t 121) (.t 122), some (118, false)⟩,
               ⟨(some 124), .pick (.t 118) (.c (.b true)) (.t 123), none⟩])
             (.cond (.t 124)
              (.seq
               (.reg none [⟨(some 4), .mv (.c (.b false)), none⟩])
               .ret)
              .skip))
            (.seq
             (.seq
              (.reg none [⟨(some 125), .mv (.t 1), none⟩,
                ⟨(some 126), .bin .eql (.t 125) (.c (.int .i64 1)), none⟩])
              (.cond (.t 126)
               (.seq
                (.reg none [⟨(some 127), .call 25 [], none⟩,
                  ⟨(some 4), .mv (.t 127), none⟩])
                .ret)
               .skip))
             (.seq
              (.reg none [⟨(some 129), .load (some 2) (.t 2), none⟩,
                ⟨(some 130), .call 32 [(.t 129)], none⟩,
                ⟨(some 131), .mv (.t 1), none⟩,
                ⟨(some 132), .bin .sub (.t 131) (.c (.int .i64 1)), none⟩,
                ⟨(some 133), .call 57 [(.t 130), (.t 132)], none⟩,
                ⟨(some 128), .mv (.t 133), none⟩,
                ⟨(some 134), .extr (.t 128) 0, none⟩,
                ⟨(some 135), .extr (.t 128) 1, none⟩,
                ⟨(some 14), .mv (.t 134), none⟩,
                ⟨(some 6), .mv (.t 135), none⟩])
              (.seq
               (.reg none [⟨(some 137), .load (some 2) (.t 2), none⟩,
                 ⟨(some 138), .call 32 [(.t 137)], none⟩,
                 ⟨(some 139), .mv (.t 1), none⟩,
                 ⟨(some 140), .bin .sub (.t 139) (.c (.int .i64 1)), none⟩,
                 ⟨(some 141), .call 48 [(.t 138), (.t 140)], none⟩,
                 ⟨(some 136), .mv (.t 141), none⟩,
                 ⟨(some 142), .extr (.t 136) 0, none⟩,
                 ⟨(some 143), .extr (.t 136) 1, none⟩,
                 ⟨(some 15), .mv (.t 142), none⟩,
                 ⟨(some 8), .mv (.t 143), none⟩])
               (.seq
                (.reg none [⟨(some 144), .mv (.t 14), none⟩,
                  ⟨(some 145), .mv (.t 144), none⟩,
                  ⟨(some 146), .mv (.t 6), some (145, true)⟩,
                  ⟨(some 147), .bin .eql (.t 146) (.c (.int .i64 0)), some (145, true)⟩,
                  ⟨(some 148), .pick (.t 145) (.t 147) (.c (.b false)), none⟩,
                  ⟨(some 149), .mv (.t 148), none⟩,
                  ⟨(some 150), .mv (.t 8), some (149, true)⟩,
                  ⟨(some 151), .bin .eql (.t 150) (.c (.int .i64 0)), some (149, true)⟩,
                  ⟨(some 152), .pick (.t 149) (.t 151) (.c (.b false)), none⟩,
                  ⟨(some 153), .mv (.t 152), none⟩,
                  ⟨(some 154), .mv (.t 15), some (153, true)⟩,
                  ⟨(some 155), .mv (.t 7), some (153, true)⟩,
                  ⟨(some 156), .faddr 0 (.t 2), some (153, true)⟩,
                  ⟨(some 157), .load none (.t 156), some (153, true)⟩,
                  ⟨(some 158), .bin .mul (.t 155) (.t 157), some (153, true)⟩,
                  ⟨(some 159), .bin .eql (.t 154) (.t 158), some (153, true)⟩,
                  ⟨(some 160), .pick (.t 153) (.t 159) (.c (.b false)), none⟩,
                  ⟨(some 161), .mv (.t 160), none⟩,
                  ⟨(some 162), .call 25 [], some (161, true)⟩,
                  ⟨(some 163), .pick (.t 161) (.t 162) (.c (.b false)), none⟩,
                  ⟨(some 4), .mv (.t 163), none⟩])
                .ret)))))))))))))) }
theorem f11P : prepF C Try.f11 = some f11A := by kernel_rfl

/-- congou/congoulaw09.ArraysNew -/
def f12A : AFunc :=
{ nargs := 3, res := [.t 6], body :=
  (.seq
   (.reg none [⟨(some 6), .mv (.c (.b false)), none⟩])
   (.seq
    (.reg none [⟨(some 15), .mv (.t 0), none⟩,
      ⟨(some 16), .mv (.t 1), none⟩,
      ⟨(some 17), .mv (.t 2), none⟩,
      ⟨(some 18), .call 43 [(.t 15), (.t 16), (.t 17)], none⟩,
      ⟨(some 14), .mv (.t 18), none⟩,
      ⟨(some 19), .extr (.t 14) 0, none⟩,
      ⟨(some 20), .extr (.t 14) 1, none⟩,
      ⟨(some 7), .alloc [(.int .i64 0), .nils], none⟩,
      ⟨none, .store 2 (.t 7) (.t 19), none⟩,
      ⟨(some 8), .mv (.t 20), none⟩])
    (.seq
     (.seq
      (.reg none [⟨(some 21), .mv (.t 8), none⟩,
        ⟨(some 22), .bin .neq (.t 21) (.c (.int .i64 0)), none⟩,
        ⟨(some 23), .mv (.t 22), none⟩,
        ⟨(some 24), .mv (.t 0), some (23, false)⟩,
        ⟨(some 25), .mv (.t 1), some (23, false)⟩,
        ⟨(some 26), .mv (.t 2), some (23, false)⟩,
        ⟨(some 27), .call 44 [(.t 24), (.t 25), (.t 26)], some (23, false)⟩,
        ⟨(some 28), .un .not (.t 27), some (23, false)⟩,
        ⟨(some 29), .pick (.t 23) (.c (.b true)) (.t 28), none⟩])
      (.cond (.t 29)
       (.seq
        (.reg none [⟨(some 30), .mv (.t 8), none⟩,
          ⟨(some 31), .bin .eql (.t 30) (.c (.int .i64 2)), none⟩,
          ⟨(some 32), .mv (.t 31), none⟩,
          ⟨(some 33), .mv (.t 8), some (32, false)⟩,
          ⟨(some 34), .bin .eql (.t 33) (.c (.int .i64 6)), some (32, false)⟩,
          ⟨(some 35), .pick (.t 32) (.c (.b true)) (.t 34), none⟩,
          ⟨(some 36), .mv (.t 35), none⟩,
          ⟨(some 37), .call 25 [], some (36, true)⟩,
          ⟨(some 38), .pick (.t 36) (.t 37) (.c (.b false)), none⟩,
          ⟨(some 6), .mv (.t 38), none⟩])
        .ret)
       .skip))
     (.seq
      (.seq
       (.reg none [⟨(some 39), .load (some 2) (.t 7), none⟩,
         ⟨(some 40), .call 21 [(.t 39)], none⟩,
         ⟨(some 41), .call 38 [(.t 40)], none⟩,
         ⟨(some 42), .un .not (.t 41), none⟩,
         ⟨(some 43), .mv (.t 42), none⟩,
         ⟨(some 44), .faddr 0 (.t 7), some (43, false)⟩,
         ⟨(some 45), .load none (.t 44), some (43, false)⟩,
         ⟨(some 46), .mv (.t 0), some (43, false)⟩,
         ⟨(some 47), .bin .neq (.t 45) (.t 46), some (43, false)⟩,
         ⟨(some 48), .pick (.t 43) (.c (.b true)) (.t 47), none⟩,
         ⟨(some 49), .mv (.t 48), none⟩,
         ⟨(some 50), .load (some 2) (.t 7), some (49, false)⟩,
         ⟨(some 51), .call 21 [(.t 50)], some (49, false)⟩,
         ⟨(some 52), .call 39 [(.t 51)], some (49, false)⟩,
         ⟨(some 53), .mv (.t 1), some (49, false)⟩,
         ⟨(some 54), .bin .neq (.t 52) (.t 53), some (49, false)⟩,
         ⟨(some 55), .pick (.t 49) (.c (.b true)) (.t 54), none⟩,
         ⟨(some 56), .mv (.t 55), none⟩,
         ⟨(some 57), .faddr 1 (.t 7), some (56, false)⟩,
         ⟨(some 58), .load none (.t 57), some (56, false)⟩,
         ⟨(some 59), .iaddr 1 (.t 58) (.c (.int .i64 0)), some (56, false)⟩,
         ⟨(some 60), .load none (.t 59), some (56, false)⟩,
         ⟨(some 61), .call 59 [(.t 60), (.c (.fn 60 [] []))], some (56, false)⟩,
         ⟨(some 62), .pick (.t 56) (.c (.b true)) (.t 61), none⟩])
       (.cond (.t 62)
        (.seq
         (.reg none [⟨(some 6), .mv (.c (.b false)), none⟩])
         .ret)
        .skip))
      (.seq
       (.reg none [⟨(some 9), .mv (.c (.int .i64 (-1))), none⟩,
         ⟨(some 10), .mv (.c (.int .i64 (-1))), none⟩])
       (.seq
        (.seq
         (.reg none [⟨(some 11), .mv (.c (.int .i64 1)), none⟩])
         (.block 0
          (.loop
           (.seq
            (.seq
             (.reg none [⟨(some 63), .mv (.t 11), none⟩,
               ⟨(some 64), .faddr 1 (.t 7), none⟩,
               ⟨(some 65), .load none (.t 64), none⟩,
               ⟨(some 66), .len (.t 65), none⟩,
               ⟨(some 67), .bin .leq (.t 63) (.t 66), none⟩])
             (.cond (.t 67)
              .skip
              (.exit 0)))
            (.seq
             (.block 1
              (.seq
               (.reg none [⟨(some 71), .mv (.t 0), none⟩,
                 ⟨(some 72), .faddr 1 (.t 7), none⟩,
                 ⟨(some 73), .load none (.t 72), none⟩,
                 ⟨(some 74), .mv (.t 11), none⟩,
                 ⟨(some 75), .slice 1 (.t 73) none (some (.t 74)) none, none⟩,
                 ⟨(some 76), .build [(.int .i64 0), .nils] [(0, 1, (.t 71)), (1, 1, (.t 75))], none⟩,
                 ⟨(some 77), .call 32 [(.t 76)], none⟩,
                 ⟨(some 78), .mv (.t 2), none⟩,
                 ⟨(some 79), .call 61 [(.t 77), (.t 78)], none⟩,
                 ⟨(some 70), .mv (.t 79), none⟩,
                 ⟨(some 80), .extr (.t 70) 0, none⟩,
                 ⟨(some 81), .extr (.t 70) 1, none⟩,
                 ⟨(some 12), .mv (.t 80), none⟩,
                 ⟨(some 13), .mv (.t 81), none⟩])
               (.seq
                (.seq
                 (.reg none [⟨(some 82), .mv (.t 13), none⟩,
                   ⟨(some 83), .bin .neq (.t 82) (.c (.int .i64 0)), none⟩,
                   ⟨(some 84), .mv (.t 83), none⟩,
                   ⟨(some 85), .mv (.t 9), some (84, false)⟩,
                   ⟨(some 86), .bin .geq (.t 85) (.c (.int .i64 0)), some (84, false)⟩,
                   ⟨(some 87), .mv (.t 86), some (84, false)⟩,
                   ⟨(some 88), .mv (.t 12), some (87, true)⟩,
                   ⟨(some 89), .len (.t 88), some (87, true)⟩,
                   ⟨(some 90), .mv (.t 9), some (87, true)⟩,
                   ⟨(some 91), .bin .geq (.t 89) (.t 90), some (87, true)⟩,
                   ⟨(some 92), .mv (.t 91), some (87, true)⟩,
                   ⟨(some 93), .mv (.t 10), some (92, false)⟩,
                   ⟨(some 94), .bin .geq (.t 93) (.c (.int .i64 0)), some (92, false)⟩,
                   ⟨(some 95), .mv (.t 94), some (92, false)⟩,
                   ⟨(some 96), .mv (.t 9), some (95, true)⟩,
                   ⟨(some 97), .mv (.t 12), some (95, true)⟩,
                   ⟨(some 98), .len (.t 97), some (95, true)⟩,
                   ⟨(some 99), .bin .sub (.t 96) (.t 98), some (95, true)⟩,
                   ⟨(some 100), .mv (.t 10), some (95, true)⟩,
                   ⟨(some 101), .bin .gtr (.t 99) (.t 100), some (95, true)⟩,
                   ⟨(some 102), .pick (.t 95) (.t 101) (.c (.b false)), some (92, false)⟩,
                   ⟨(some 103), .pick (.t 92) (.c (.b true)) (.t 102), some (87, true)⟩,
                   ⟨(some 104), .pick (.t 87) (.t 103) (.c (.b false)), some (84, false)⟩,
                   ⟨(some 105), .pick (.t 84) (.c (.b true)) (.t 104), none⟩])
                 (.cond (.t 105)
                  (.seq
                   (.reg none [⟨(some 6), .mv (.c (.b false)), none⟩])
                   .ret)
                  .skip))
                (.seq
                 (.seq
                  (.reg none [⟨(some 106), .mv (.t 9), none⟩,
                    ⟨(some 107), .bin .geq (.t 106) (.c (.int .i64 0)), none⟩])
                  (.cond (.t 107)
                   (.reg none [⟨(some 108), .mv (.t 9), none⟩,
                     ⟨(some 109), .mv (.t 12), none⟩,
                     ⟨(some 110), .len (.t 109), none⟩,
                     ⟨(some 111), .bin .sub (.t 108) (.t 110), none⟩,
                     ⟨(some 10), .mv (.t 111), none⟩])
                   .skip))
                 (.reg none [⟨(some 112), .mv (.t 12), none⟩,
                   ⟨(some 113), .len (.t 112), none⟩,
                   ⟨(some 9), .mv (.t 113), none⟩])))))
             (.reg none [⟨(some 68), .mv (.t 11), none⟩,
               ⟨(some 69), .bin .add (.t 68) (.c (.int .i64 1)), none⟩,
               ⟨(some 11), .mv (.t 69), none⟩]))))))
        (.seq
         (.reg none [⟨(some 114), .mv (.t 9), none⟩,
           ⟨(some 115), .bin .eql (.t 114) (.c (.int .i64 0)), none⟩,
           ⟨(some 116), .mv (.t 115), none⟩,
           ⟨(some 117), .call 25 [], some (116, true)⟩,
           ⟨(some 118), .pick (.t 116) (.t 117) (.c (.b false)), none⟩,
           ⟨(some 6), .mv (.t 118), none⟩])
         .ret))))))) }
theorem f12P : prepF C Try.f12 = some f12A := by kernel_rfl

/-- congou/congoulaw09.ArraysMade -/
def f13A : AFunc :=
{ nargs := 1, res := [.t 2], body :=
  (.seq
   (.reg none [⟨(some 2), .mv (.c (.b false)), none⟩])
   (.seq
    (.reg none [⟨(some 12), .mv (.t 0), none⟩,
      ⟨(some 13), .conv .u64 (.t 12), none⟩,
      ⟨(some 14), .bin .rem (.t 13) (.c (.int .u64 7)), none⟩,
      ⟨(some 15), .conv .i64 (.t 14), none⟩,
      ⟨(some 16), .bin .add (.c (.int .i64 2)) (.t 15), none⟩,
      ⟨(some 0), .mv (.t 16), none⟩])
    (.seq
     (.reg none [⟨(some 18), .mv (.t 0), none⟩,
       ⟨(some 19), .call 28 [(.t 18)], none⟩,
       ⟨(some 17), .mv (.t 19), none⟩,
       ⟨(some 20), .extr (.t 17) 0, none⟩,
       ⟨(some 21), .extr (.t 17) 1, none⟩,
       ⟨(some 3), .alloc [(.int .i64 0), .nils], none⟩,
       ⟨none, .store 2 (.t 3) (.t 20), none⟩,
       ⟨(some 4), .mv (.t 21), none⟩])
     (.seq
      (.reg none [⟨(some 23), .mv (.t 0), none⟩,
        ⟨(some 24), .call 27 [(.t 23)], none⟩,
        ⟨(some 22), .mv (.t 24), none⟩,
        ⟨(some 25), .extr (.t 22) 0, none⟩,
        ⟨(some 26), .extr (.t 22) 1, none⟩,
        ⟨(some 5), .mv (.t 25), none⟩,
        ⟨(some 6), .mv (.t 26), none⟩])
      (.seq
       (.seq
        (.reg none [⟨(some 27), .mv (.t 4), none⟩,
          ⟨(some 28), .bin .neq (.t 27) (.c (.int .i64 0)), none⟩,
          ⟨(some 29), .mv (.t 28), none⟩,
          ⟨(some 30), .mv (.t 6), some (29, false)⟩,
          ⟨(some 31), .bin .neq (.t 30) (.c (.int .i64 0)), some (29, false)⟩,
          ⟨(some 32), .pick (.t 29) (.c (.b true)) (.t 31), none⟩,
          ⟨(some 33), .mv (.t 32), none⟩,
          ⟨(some 34), .load (some 2) (.t 3), some (33, false)⟩,
          ⟨(some 35), .call 21 [(.t 34)], some (33, false)⟩,
          ⟨(some 36), .call 38 [(.t 35)], some (33, false)⟩,
          ⟨(some 37), .un .not (.t 36), some (33, false)⟩,
          ⟨(some 38), .pick (.t 33) (.c (.b true)) (.t 37), none⟩,
          ⟨(some 39), .mv (.t 38), none⟩,
          ⟨(some 40), .faddr 1 (.t 3), some (39, false)⟩,
          ⟨(some 41), .load none (.t 40), some (39, false)⟩,
          ⟨(some 42), .len (.t 41), some (39, false)⟩,
          ⟨(some 43), .mv (.t 5), some (39, false)⟩,
          ⟨(some 44), .bin .neq (.t 42) (.t 43), some (39, false)⟩,
          ⟨(some 45), .pick (.t 39) (.c (.b true)) (.t 44), none⟩,
          ⟨(some 46), .mv (.t 45), none⟩,
          ⟨(some 47), .load (some 2) (.t 3), some (46, false)⟩,
          ⟨(some 48), .call 21 [(.t 47)], some (46, false)⟩,
          ⟨(some 49), .call 39 [(.t 48)], some (46, false)⟩,
          ⟨(some 50), .mv (.t 0), some (46, false)⟩,
          ⟨(some 51), .bin .neq (.t 49) (.t 50), some (46, false)⟩,
          ⟨(some 52), .pick (.t 46) (.c (.b true)) (.t 51), none⟩,
          ⟨(some 53), .mv (.t 52), none⟩,
          ⟨(some 54), .faddr 0 (.t 3), some (53, false)⟩,
          ⟨(some 55), .load none (.t 54), some (53, false)⟩,
          ⟨(some 56), .bin .neq (.t 55) (.c (.int .i64 2)), some (53, false)⟩,
          ⟨(some 57), .pick (.t 53) (.c (.b true)) (.t 56), none⟩,
          ⟨(some 58), .mv (.t 57), none⟩,
          ⟨(some 59), .faddr 1 (.t 3), some (58, false)⟩,
          ⟨(some 60), .load none (.t 59), some (58, false)⟩,
          ⟨(some 61), .iaddr 1 (.t 60) (.c (.int .i64 0)), some (58, false)⟩,
          ⟨(some 62), .load none (.t 61), some (58, false)⟩,
          ⟨(some 63), .call 62 [(.t 62), (.c (.int .i64 1))], some (58, false)⟩,
          ⟨(some 64), .pick (.t 58) (.c (.b true)) (.t 63), none⟩])
        (.cond (.t 64)
         (.seq
          (.reg none [⟨(some 2), .mv (.c (.b false)), none⟩])
          .ret)
         .skip))
       (.seq
        (.reg none [⟨(some 66), .load (some 2) (.t 3), none⟩,
          ⟨(some 67), .call 21 [(.t 66)], none⟩,
          ⟨(some 68), .call 32 [(.t 67)], none⟩,
          ⟨(some 69), .call 46 [(.t 68), (.c (.int .i64 2))], none⟩,
          ⟨(some 65), .mv (.t 69), none⟩,
          ⟨(some 70), .extr (.t 65) 0, none⟩,
          ⟨(some 71), .extr (.t 65) 1, none⟩,
          ⟨(some 7), .mv (.t 70), none⟩,
          ⟨(some 4), .mv (.t 71), none⟩])
        (.seq
         (.seq
          (.reg none [⟨(some 72), .mv (.t 0), none⟩,
            ⟨(some 73), .mv (.c (.int .i64 0)), none⟩])
          (.block 0
           (.loop
            (.seq
             (.reg none [⟨(some 74), .bin .lss (.t 73) (.t 72), none⟩])
             (.seq
              (.cond (.t 74)
               .skip
               (.exit 0))
              (.seq
               (.block 1
                (.seq
                 (.reg none [⟨(some 75), .mv (.t 73), none⟩,
                   ⟨(some 8), .mv (.t 75), none⟩])
                 (.seq
                  (.reg none [⟨(some 9), .mv (.c (.int .i64 0)), none⟩])
                  (.seq
                   (.seq
                    (.reg none [⟨(some 76), .faddr 1 (.t 3), none⟩,
                      ⟨(some 77), .load none (.t 76), none⟩,
                      ⟨(some 78), .len (.t 77), none⟩,
                      ⟨(some 79), .mv (.c (.int .i64 0)), none⟩])
                    (.block 2
                     (.loop
                      (.seq
                       (.reg none [⟨(some 80), .bin .lss (.t 79) (.t 78), none⟩])
                       (.seq
                        (.cond (.t 80)
                         .skip
                         (.exit 2))
                        (.seq
                         (.block 3
                          (.seq
                           (.reg none [⟨(some 81), .iaddr 1 (.t 77) (.t 79), none⟩,
                             ⟨(some 82), .load none (.t 81), none⟩,
                             ⟨(some 11), .mv (.t 82), none⟩])
                           (.reg none [⟨(some 83), .mv (.t 9), none⟩,
                             ⟨(some 84), .mv (.t 11), none⟩,
                             ⟨(some 85), .mv (.t 8), none⟩,
                             ⟨(some 86), .iaddr 1 (.t 84) (.t 85), none⟩,
                             ⟨(some 87), .load none (.t 86), none⟩,
                             ⟨(some 88), .bin .add (.t 83) (.t 87), none⟩,
                             ⟨(some 9), .mv (.t 88), none⟩])))
                         (.reg none [⟨(some 89), .bin .add (.t 79) (.c (.int .i64 1)), none⟩,
                           ⟨(some 79), .mv (.t 89), none⟩])))))))
                   (.seq
                    (.reg none [⟨(some 90), .mv (.t 9), none⟩,
                      ⟨(some 91), .mv (.t 5), none⟩,
                      ⟨(some 92), .mv (.t 5), none⟩,
                      ⟨(some 93), .bin .quo (.t 92) (.c (.int .i64 2)), none⟩,
                      ⟨(some 94), .bin .sub (.t 91) (.t 93), none⟩,
                      ⟨(some 95), .bin .neq (.t 90) (.t 94), none⟩])
                    (.cond (.t 95)
                     (.seq
                      (.reg none [⟨(some 2), .mv (.c (.b false)), none⟩])
                      .ret)
                     .skip))))))
               (.reg none [⟨(some 96), .bin .add (.t 73) (.c (.int .i64 1)), none⟩,
                 ⟨(some 73), .mv (.t 96), none⟩])))))))
         (.seq
          (.reg none [⟨(some 97), .mv (.t 7), none⟩,
            ⟨(some 98), .mv (.t 97), none⟩,
            ⟨(some 99), .mv (.t 4), some (98, true)⟩,
            ⟨(some 100), .bin .eql (.t 99) (.c (.int .i64 0)), some (98, true)⟩,
            ⟨(some 101), .pick (.t 98) (.t 100) (.c (.b false)), none⟩,
            ⟨(some 102), .mv (.t 101), none⟩,
            ⟨(some 103), .call 25 [], some (102, true)⟩,
            ⟨(some 104), .pick (.t 102) (.t 103) (.c (.b false)), none⟩,
            ⟨(some 2), .mv (.t 104), none⟩])
          .ret)))))))) }
theorem f13P : prepF C Try.f13 = some f13A := by kernel_rfl

/-- congou/congoulaw09.ArraysCovers -/
def f14A : AFunc :=
{ nargs := 2, res := [.t 4], body :=
  (.seq
   (.reg none [⟨(some 2), .box (.t 0), none⟩,
     ⟨(some 4), .mv (.c (.b false)), none⟩])
   (.seq
    (.reg none [⟨(some 12), .load (some 2) (.t 2), none⟩,
      ⟨(some 13), .call 32 [(.t 12)], none⟩,
      ⟨(some 14), .mv (.t 1), none⟩,
      ⟨(some 15), .call 46 [(.t 13), (.t 14)], none⟩,
      ⟨(some 11), .mv (.t 15), none⟩,
      ⟨(some 16), .extr (.t 11) 0, none⟩,
      ⟨(some 17), .extr (.t 11) 1, none⟩,
      ⟨(some 5), .mv (.t 16), none⟩,
      ⟨(some 6), .mv (.t 17), none⟩])
    (.seq
     (.reg none [⟨(some 19), .load (some 2) (.t 2), none⟩,
       ⟨(some 20), .call 32 [(.t 19)], none⟩,
       ⟨(some 21), .mv (.t 1), none⟩,
       ⟨(some 22), .call 57 [(.t 20), (.t 21)], none⟩,
       ⟨(some 18), .mv (.t 22), none⟩,
       ⟨(some 23), .extr (.t 18) 0, none⟩,
       ⟨(some 24), .extr (.t 18) 1, none⟩,
       ⟨(some 7), .mv (.t 23), none⟩,
       ⟨(some 8), .mv (.t 24), none⟩])
     (.seq
      (.reg none [⟨(some 26), .load (some 2) (.t 2), none⟩,
        ⟨(some 27), .call 32 [(.t 26)], none⟩,
        ⟨(some 28), .mv (.t 1), none⟩,
        ⟨(some 29), .call 61 [(.t 27), (.t 28)], none⟩,
        ⟨(some 25), .mv (.t 29), none⟩,
        ⟨(some 30), .extr (.t 25) 0, none⟩,
        ⟨(some 31), .extr (.t 25) 1, none⟩,
        ⟨(some 9), .mv (.t 30), none⟩,
        ⟨(some 10), .mv (.t 31), none⟩])
      (.seq
       (.seq
        (.reg none [⟨(some 32), .load (some 2) (.t 2), none⟩,
          ⟨(some 33), .call 38 [(.t 32)], none⟩,
          ⟨(some 34), .un .not (.t 33), none⟩,
          ⟨(some 35), .mv (.t 34), none⟩,
          ⟨(some 36), .load (some 2) (.t 2), some (35, false)⟩,
          ⟨(some 37), .mv (.t 1), some (35, false)⟩,
          ⟨(some 38), .call 52 [(.t 36), (.t 37)], some (35, false)⟩,
          ⟨(some 39), .un .not (.t 38), some (35, false)⟩,
          ⟨(some 40), .pick (.t 35) (.c (.b true)) (.t 39), none⟩])
        (.cond (.t 40)
         (.seq
          (.reg none [⟨(some 41), .mv (.t 5), none⟩,
            ⟨(some 42), .un .not (.t 41), none⟩,
            ⟨(some 43), .mv (.t 42), none⟩,
            ⟨(some 44), .mv (.t 7), some (43, true)⟩,
            ⟨(some 45), .un .not (.t 44), some (43, true)⟩,
            ⟨(some 46), .pick (.t 43) (.t 45) (.c (.b false)), none⟩,
            ⟨(some 47), .mv (.t 46), none⟩,
            ⟨(some 48), .mv (.t 9), some (47, true)⟩,
            ⟨(some 49), .len (.t 48), some (47, true)⟩,
            ⟨(some 50), .bin .eql (.t 49) (.c (.int .i64 0)), some (47, true)⟩,
            ⟨(some 51), .pick (.t 47) (.t 50) (.c (.b false)), none⟩,
            ⟨(some 52), .mv (.t 51), none⟩,
            ⟨(some 53), .mv (.t 6), some (52, true)⟩,
            ⟨(some 54), .bin .eql (.t 53) (.c (.int .i64 2)), some (52, true)⟩,
            ⟨(some 55), .pick (.t 52) (.t 54) (.c (.b false)), none⟩,
            ⟨(some 56), .mv (.t 55), none⟩,
            ⟨(some 57), .mv (.t 8), some (56, true)⟩,
            ⟨(some 58), .bin .eql (.t 57) (.c (.int .i64 2)), some (56, true)⟩,
            ⟨(some 59), .pick (.t 56) (.t 58) (.c (.b false)), none⟩,
            ⟨(some 60), .mv (.t 59), none⟩,
            ⟨(some 61), .mv (.t 10), some (60, true)⟩,
            ⟨(some 62), .bin .eql (.t 61) (.c (.int .i64 2)), some (60, true)⟩,
            ⟨(some 63), .pick (.t 60) (.t 62) (.c (.b false)), none⟩,
            ⟨(some 64), .mv (.t 63), none⟩,
            ⟨(some 65), .call 25 [], some (64, true)⟩,
            ⟨(some 66), .pick (.t 64) (.t 65) (.c (.b false)), none⟩,
            ⟨(some 4), .mv (.t 66), none⟩])
          .ret)
         .skip))
       (.seq
        (.seq
         (.reg none [⟨(some 67), .mv (.t 5), none⟩,
           ⟨(some 68), .load (some 2) (.t 2), none⟩,
           ⟨(some 69), .mv (.t 1), none⟩,
           ⟨(some 70), .call 63 [(.t 68), (.t 69)], none⟩,
           ⟨(some 71), .beq true (.t 67) (.t 70), none⟩,
           ⟨(some 72), .mv (.t 71), none⟩,
           ⟨(some 73), .mv (.t 7), some (72, false)⟩,
           ⟨(some 74), .load (some 2) (.t 2), some (72, false)⟩,
           ⟨(some 75), .mv (.t 1), some (72, false)⟩,
           ⟨(some 76), .call 64 [(.t 74), (.t 75)], some (72, false)⟩,
           ⟨(some 77), .beq true (.t 73) (.t 76), some (72, false)⟩,
           ⟨(some 78), .pick (.t 72) (.c (.b true)) (.t 77), none⟩,
           ⟨(some 79), .mv (.t 78), none⟩,
           ⟨(some 80), .mv (.t 6), some (79, false)⟩,
           ⟨(some 81), .bin .neq (.t 80) (.c (.int .i64 0)), some (79, false)⟩,
           ⟨(some 82), .pick (.t 79) (.c (.b true)) (.t 81), none⟩,
           ⟨(some 83), .mv (.t 82), none⟩,
           ⟨(some 84), .mv (.t 8), some (83, false)⟩,
           ⟨(some 85), .bin .neq (.t 84) (.c (.int .i64 0)), some (83, false)⟩,
           ⟨(some 86), .pick (.t 83) (.c (.b true)) (.t 85), none⟩,
           ⟨(some 87), .mv (.t 86), none⟩,
           ⟨(some 88), .call 25 [], some (87, false)⟩,
           ⟨(some 89), .un .not (.t 88), some (87, false)⟩,
           ⟨(some 90), .pick (.t 87) (.c (.b true)) (.t 89), none⟩])
         (.cond (.t 90)
          (.seq
           (.reg none [⟨(some 4), .mv (.c (.b false)), none⟩])
           .ret)
          .skip))
        (.seq
         (.seq
          (.reg none [⟨(some 91), .mv (.t 1), none⟩,
            ⟨(some 92), .bin .gtr (.t 91) (.c (.int .i64 2)), none⟩])
          (.cond (.t 92)
           (.seq
            (.reg none [⟨(some 93), .mv (.t 9), none⟩,
              ⟨(some 94), .len (.t 93), none⟩,
              ⟨(some 95), .bin .eql (.t 94) (.c (.int .i64 0)), none⟩,
              ⟨(some 96), .mv (.t 95), none⟩,
              ⟨(some 97), .mv (.t 10), some (96, true)⟩,
              ⟨(some 98), .bin .eql (.t 97) (.c (.int .i64 2)), some (96, true)⟩,
              ⟨(some 99), .pick (.t 96) (.t 98) (.c (.b false)), none⟩,
              ⟨(some 4), .mv (.t 99), none⟩])
            .ret)
           .skip))
         (.seq
          (.reg none [⟨(some 100), .mv (.t 9), none⟩,
            ⟨(some 101), .load (some 2) (.t 2), none⟩,
            ⟨(some 102), .mv (.t 1), none⟩,
            ⟨(some 103), .call 66 [(.t 101), (.t 102)], none⟩,
            ⟨(some 104), .call 65 [(.t 100), (.t 103), (.c (.fn 55 [] []))], none⟩,
            ⟨(some 105), .mv (.t 104), none⟩,
            ⟨(some 106), .mv (.t 10), some (105, true)⟩,
            ⟨(some 107), .bin .eql (.t 106) (.c (.int .i64 0)), some (105, true)⟩,
            ⟨(some 108), .pick (.t 105) (.t 107) (.c (.b false)), none⟩,
            ⟨(some 4), .mv (.t 108), none⟩])
          .ret)))))))) }
theorem f14P : prepF C Try.f14 = some f14A := by kernel_rfl

/-- congou/congoulaw09.ArraysKept -/
def f15A : AFunc :=
{ nargs := 6, res := [.t 12], body :=
  (.seq
   (.reg none [⟨(some 6), .box (.t 0), none⟩,
     ⟨(some 12), .mv (.c (.b false)), none⟩])
   (.seq
    (.reg none [⟨(some 46), .load (some 2) (.t 6), none⟩,
      ⟨(some 47), .call 32 [(.t 46)], none⟩,
      ⟨(some 48), .mv (.t 1), none⟩,
      ⟨(some 49), .call 46 [(.t 47), (.t 48)], none⟩,
      ⟨(some 45), .mv (.t 49), none⟩,
      ⟨(some 50), .extr (.t 45) 0, none⟩,
      ⟨(some 51), .extr (.t 45) 1, none⟩,
      ⟨(some 13), .mv (.t 50), none⟩,
      ⟨(some 14), .mv (.t 51), none⟩])
    (.seq
     (.reg none [⟨(some 53), .load (some 2) (.t 6), none⟩,
       ⟨(some 54), .call 32 [(.t 53)], none⟩,
       ⟨(some 55), .mv (.t 1), none⟩,
       ⟨(some 56), .call 57 [(.t 54), (.t 55)], none⟩,
       ⟨(some 52), .mv (.t 56), none⟩,
       ⟨(some 57), .extr (.t 52) 0, none⟩,
       ⟨(some 58), .extr (.t 52) 1, none⟩,
       ⟨(some 15), .mv (.t 57), none⟩,
       ⟨(some 16), .mv (.t 58), none⟩])
     (.seq
      (.seq
       (.reg none [⟨(some 59), .mv (.t 14), none⟩,
         ⟨(some 60), .bin .neq (.t 59) (.c (.int .i64 0)), none⟩,
         ⟨(some 61), .mv (.t 60), none⟩,
         ⟨(some 62), .mv (.t 16), some (61, false)⟩,
         ⟨(some 63), .bin .neq (.t 62) (.c (.int .i64 0)), some (61, false)⟩,
         ⟨(some 64), .pick (.t 61) (.c (.b true)) (.t 63), none⟩,
         ⟨(some 65), .mv (.t 64), none⟩,
         ⟨(some 66), .load (some 2) (.t 6), some (65, false)⟩,
         ⟨(some 67), .call 38 [(.t 66)], some (65, false)⟩,
         ⟨(some 68), .un .not (.t 67), some (65, false)⟩,
         ⟨(some 69), .pick (.t 65) (.c (.b true)) (.t 68), none⟩,
         ⟨(some 70), .mv (.t 69), none⟩,
         ⟨(some 71), .load (some 2) (.t 6), some (70, false)⟩,
         ⟨(some 72), .mv (.t 1), some (70, false)⟩,
         ⟨(some 73), .call 52 [(.t 71), (.t 72)], some (70, false)⟩,
         ⟨(some 74), .un .not (.t 73), some (70, false)⟩,
         ⟨(some 75), .pick (.t 70) (.c (.b true)) (.t 74), none⟩])
       (.cond (.t 75)
        (.seq
         (.reg none [⟨(some 76), .mv (.t 14), none⟩,
           ⟨(some 77), .bin .eql (.t 76) (.c (.int .i64 2)), none⟩,
           ⟨(some 78), .mv (.t 77), none⟩,
           ⟨(some 79), .mv (.t 16), some (78, true)⟩,
           ⟨(some 80), .mv (.t 14), some (78, true)⟩,
           ⟨(some 81), .bin .eql (.t 79) (.t 80), some (78, true)⟩,
           ⟨(some 82), .pick (.t 78) (.t 81) (.c (.b false)), none⟩,
           ⟨(some 83), .mv (.t 82), none⟩,
           ⟨(some 84), .call 25 [], some (83, true)⟩,
           ⟨(some 85), .pick (.t 83) (.t 84) (.c (.b false)), none⟩,
           ⟨(some 12), .mv (.t 85), none⟩])
         .ret)
        .skip))
      (.seq
       (.reg none [⟨(some 87), .load (some 2) (.t 6), none⟩,
         ⟨(some 88), .call 32 [(.t 87)], none⟩,
         ⟨(some 89), .call 47 [(.t 88)], none⟩,
         ⟨(some 86), .mv (.t 89), none⟩,
         ⟨(some 90), .extr (.t 86) 0, none⟩,
         ⟨(some 91), .extr (.t 86) 1, none⟩,
         ⟨(some 17), .mv (.t 90), none⟩,
         ⟨(some 18), .mv (.t 91), none⟩])
       (.seq
        (.reg none [⟨(some 92), .mv (.t 2), none⟩,
          ⟨(some 93), .conv .u64 (.t 92), none⟩,
          ⟨(some 94), .load (some 2) (.t 6), none⟩,
          ⟨(some 95), .call 39 [(.t 94)], none⟩,
          ⟨(some 96), .conv .u64 (.t 95), none⟩,
          ⟨(some 97), .bin .rem (.t 93) (.t 96), none⟩,
          ⟨(some 98), .conv .i64 (.t 97), none⟩,
          ⟨(some 2), .mv (.t 98), none⟩])
        (.seq
         (.reg (some []) [⟨(some 99), .load (some 2) (.t 6), none⟩,
           ⟨(some 100), .call 32 [(.t 99)], none⟩,
           ⟨(some 101), .load (some 2) (.t 6), none⟩,
           ⟨(some 102), .call 32 [(.t 101)], none⟩,
           ⟨(some 19), .alloc [(.int .i64 0), .nils], none⟩,
           ⟨(some 20), .alloc [(.int .i64 0), .nils], none⟩,
           ⟨none, .store 2 (.t 19) (.t 100), none⟩,
           ⟨none, .store 2 (.t 20) (.t 102), none⟩])
         (.seq
          (.reg (some []) [⟨(some 103), .faddr 1 (.t 6), none⟩,
            ⟨(some 104), .load none (.t 103), none⟩,
            ⟨(some 105), .len (.t 104), none⟩,
            ⟨(some 106), .conv .u64 (.t 105), none⟩,
            ⟨(some 107), .load (some 2) (.t 6), none⟩,
            ⟨(some 108), .call 39 [(.t 107)], none⟩,
            ⟨(some 109), .conv .u64 (.t 108), none⟩,
            ⟨(some 21), .mv (.t 106), none⟩,
            ⟨(some 22), .mv (.t 109), none⟩])
          (.seq
           (.reg (some []) [⟨(some 110), .mv (.t 4), none⟩,
             ⟨(some 111), .conv .u64 (.t 110), none⟩,
             ⟨(some 112), .mv (.t 21), none⟩,
             ⟨(some 113), .bin .rem (.t 111) (.t 112), none⟩,
             ⟨(some 114), .mv (.t 5), none⟩,
             ⟨(some 115), .conv .u64 (.t 114), none⟩,
             ⟨(some 116), .mv (.t 21), none⟩,
             ⟨(some 117), .bin .rem (.t 115) (.t 116), none⟩,
             ⟨(some 23), .mv (.t 113), none⟩,
             ⟨(some 24), .mv (.t 117), none⟩])
           (.seq
            (.reg none [⟨(some 118), .faddr 1 (.t 19), none⟩,
              ⟨(some 119), .load none (.t 118), none⟩,
              ⟨(some 120), .mv (.t 23), none⟩,
              ⟨(some 121), .iaddr 1 (.t 119) (.t 120), none⟩,
              ⟨(some 122), .load none (.t 121), none⟩,
              ⟨(some 25), .mv (.t 122), none⟩])
            (.seq
             (.reg (some []) [⟨(some 123), .faddr 1 (.t 19), none⟩,
               ⟨(some 124), .load none (.t 123), none⟩,
               ⟨(some 125), .mv (.t 23), none⟩,
               ⟨(some 126), .faddr 1 (.t 19), none⟩,
               ⟨(some 127), .load none (.t 126), none⟩,
               ⟨(some 128), .mv (.t 24), none⟩,
               ⟨(some 129), .iaddr 1 (.t 127) (.t 128), none⟩,
               ⟨(some 130), .load none (.t 129), none⟩,
               ⟨(some 131), .iaddr 1 (.t 124) (.t 125), none⟩,
               ⟨none, .store 1 (.t 131) (.t 130), none⟩])
             (.seq
              (.reg none [⟨(some 132), .faddr 1 (.t 19), none⟩,
                ⟨(some 133), .load none (.t 132), none⟩,
                ⟨(some 134), .mv (.t 24), none⟩,
                ⟨(some 135), .mv (.t 25), none⟩,
                ⟨(some 136), .iaddr 1 (.t 133) (.t 134), none⟩,
                ⟨none, .store 1 (.t 136) (.t 135), none⟩])
              (.seq
               (.reg (some []) [⟨(some 137), .mv (.t 4), none⟩,
                 ⟨(some 138), .conv .u64 (.t 137), none⟩,
                 ⟨(some 139), .mv (.t 22), none⟩,
                 ⟨(some 140), .bin .rem (.t 138) (.t 139), none⟩,
                 ⟨(some 141), .mv (.t 5), none⟩,
                 ⟨(some 142), .conv .u64 (.t 141), none⟩,
                 ⟨(some 143), .mv (.t 22), none⟩,
                 ⟨(some 144), .bin .rem (.t 142) (.t 143), none⟩,
                 ⟨(some 23), .mv (.t 140), none⟩,
                 ⟨(some 24), .mv (.t 144), none⟩])
               (.seq
                (.seq
                 (.reg none [⟨(some 145), .faddr 1 (.t 20), none⟩,
                   ⟨(some 146), .load none (.t 145), none⟩,
                   ⟨(some 147), .len (.t 146), none⟩,
                   ⟨(some 148), .mv (.c (.int .i64 0)), none⟩])
                 (.block 0
                  (.loop
                   (.seq
                    (.reg none [⟨(some 149), .bin .lss (.t 148) (.t 147), none⟩])
                    (.seq
                     (.cond (.t 149)
                      .skip
                      (.exit 0))
                     (.seq
                      (.block 1
                       (.seq
                        (.reg none [⟨(some 150), .iaddr 1 (.t 146) (.t 148), none⟩,
                          ⟨(some 151), .load none (.t 150), none⟩,
                          ⟨(some 27), .mv (.t 151), none⟩])
                        (.seq
                         (.reg none [⟨(some 152), .mv (.t 27), none⟩,
                           ⟨(some 153), .mv (.t 23), none⟩,
                           ⟨(some 154), .iaddr 1 (.t 152) (.t 153), none⟩,
                           ⟨(some 155), .load none (.t 154), none⟩,
                           ⟨(some 28), .mv (.t 155), none⟩])
                         (.seq
                          (.reg none [⟨(some 156), .mv (.t 27), none⟩,
                            ⟨(some 157), .mv (.t 23), none⟩,
                            ⟨(some 158), .mv (.t 27), none⟩,
                            ⟨(some 159), .mv (.t 24), none⟩,
                            ⟨(some 160), .iaddr 1 (.t 158) (.t 159), none⟩,
                            ⟨(some 161), .load none (.t 160), none⟩,
                            ⟨(some 162), .iaddr 1 (.t 156) (.t 157), none⟩,
                            ⟨none, .store 1 (.t 162) (.t 161), none⟩])
                          (.reg none [⟨(some 163), .mv (.t 27), none⟩,
                            ⟨(some 164), .mv (.t 24), none⟩,
                            ⟨(some 165), .mv (.t 28), none⟩,
                            ⟨(some 166), .iaddr 1 (.t 163) (.t 164), none⟩,
                            ⟨none, .store 1 (.t 166) (.t 165), none⟩])))))
                      (.reg none [⟨(some 167), .bin .add (.t 148) (.c (.int .i64 1)), none⟩,
                        ⟨(some 148), .mv (.t 167), none⟩])))))))
                (.seq
                 (.reg none [⟨(some 168), .load (some 2) (.t 19), none⟩,
                   ⟨(some 169), .load (some 2) (.t 20), none⟩,
                   ⟨(some 170), .bslice [(.int .i64 0), .nils] 2 2 [(0, (.t 168)), (1, (.t 169))], none⟩,
                   ⟨(some 29), .mv (.t 170), none⟩])
                 (.seq
                  (.seq
                   (.reg none [⟨(some 172), .load (some 2) (.t 6), none⟩,
                     ⟨(some 173), .call 32 [(.t 172)], none⟩,
                     ⟨(some 174), .mv (.t 2), none⟩,
                     ⟨(some 175), .mv (.t 3), none⟩,
                     ⟨(some 176), .call 35 [(.t 175)], none⟩,
                     ⟨(some 177), .call 34 [(.t 173), (.t 174), (.t 176)], none⟩,
                     ⟨(some 171), .mv (.t 177), none⟩,
                     ⟨(some 178), .extr (.t 171) 0, none⟩,
                     ⟨(some 179), .extr (.t 171) 1, none⟩,
                     ⟨(some 30), .alloc [(.int .i64 0), .nils], none⟩,
                     ⟨none, .store 2 (.t 30) (.t 178), none⟩,
                     ⟨(some 31), .mv (.t 179), none⟩])
                   (.seq
                    (.reg none [⟨(some 180), .mv (.t 31), none⟩,
                      ⟨(some 181), .bin .eql (.t 180) (.c (.int .i64 0)), none⟩])
                    (.cond (.t 181)
                     (.reg none [⟨(some 182), .mv (.t 29), none⟩,
                       ⟨(some 183), .load (some 2) (.t 30), none⟩,
                       ⟨(some 184), .bslice [(.int .i64 0), .nils] 1 2 [(0, (.t 183))], none⟩,
                       ⟨(some 185), .append 2 32 (.t 182) (.t 184), none⟩,
                       ⟨(some 29), .mv (.t 185), none⟩])
                     (.seq
                      (.reg none [⟨(some 186), .mv (.t 31), none⟩,
                        ⟨(some 187), .bin .neq (.t 186) (.c (.int .i64 2)), none⟩,
                        ⟨(some 188), .mv (.t 187), none⟩,
                        ⟨(some 189), .faddr 0 (.t 6), some (188, false)⟩,
                        ⟨(some 190), .load none (.t 189), some (188, false)⟩,
                        ⟨(some 191), .mv (.t 3), some (188, false)⟩,
                        ⟨(some 192), .call 41 [(.t 190), (.t 191)], some (188, false)⟩,
                        ⟨(some 193), .pick (.t 188) (.c (.b true)) (.t 192), none⟩])
                      (.cond (.t 193)
                       (.seq
                        (.reg none [⟨(some 12), .mv (.c (.b false)), none⟩])
                        .ret)
                       .skip)))))
                  (.seq
                   (.seq
                    (.reg none [⟨(some 194), .mv (.t 29), none⟩,
                      ⟨(some 195), .len (.t 194), none⟩,
                      ⟨(some 196), .mv (.c (.int .i64 0)), none⟩])
                    (.block 2
                     (.loop
                      (.seq
                       (.reg none [⟨(some 197), .bin .lss (.t 196) (.t 195), none⟩])
                       (.seq
                        (.cond (.t 197)
                         .skip
                         (.exit 2))
                        (.seq
                         (.block 3
                          (.seq
                           (.reg none [⟨(some 198), .iaddr 2 (.t 194) (.t 196), none⟩,
                             ⟨(some 199), .load (some 2) (.t 198), none⟩,
                             ⟨(some 33), .alloc [(.int .i64 0), .nils], none⟩,
                             ⟨none, .store 2 (.t 33) (.t 199), none⟩])
                           (.seq
                            (.seq
                             (.reg (some []) [⟨(some 200), .load (some 2) (.t 33), none⟩,
                               ⟨(some 201), .call 21 [(.t 200)], none⟩,
                               ⟨(some 202), .call 38 [(.t 201)], none⟩,
                               ⟨(some 203), .un .not (.t 202), none⟩,
                               ⟨(some 204), .mv (.t 203), none⟩,
                               ⟨(some 205), .load (some 2) (.t 33), some (204, false)⟩,
                               ⟨(some 206), .call 21 [(.t 205)], some (204, false)⟩,
                               ⟨(some 207), .load (some 2) (.t 6), some (204, false)⟩,
                               ⟨(some 208), .call 36 [(.t 206), (.t 207)], some (204, false)⟩,
                               ⟨(some 209), .un .not (.t 208), some (204, false)⟩,
                               ⟨(some 210), .pick (.t 204) (.c (.b true)) (.t 209), none⟩])
                             (.cond (.t 210)
                              (.seq
                               (.reg none [⟨(some 12), .mv (.c (.b false)), none⟩])
                               .ret)
                              .skip))
                            (.seq
                             (.reg none [⟨(some 212), .load (some 2) (.t 33), none⟩,
                               ⟨(some 213), .call 21 [(.t 212)], none⟩,
                               ⟨(some 214), .call 32 [(.t 213)], none⟩,
                               ⟨(some 215), .mv (.t 1), none⟩,
                               ⟨(some 216), .call 46 [(.t 214), (.t 215)], none⟩,
                               ⟨(some 211), .mv (.t 216), none⟩,
                               ⟨(some 217), .extr (.t 211) 0, none⟩,
                               ⟨(some 218), .extr (.t 211) 1, none⟩,
                               ⟨(some 34), .mv (.t 217), none⟩,
                               ⟨(some 35), .mv (.t 218), none⟩])
                             (.seq
                              (.reg none [⟨(some 220), .load (some 2) (.t 33), none⟩,
                                ⟨(some 221), .call 21 [(.t 220)], none⟩,
                                ⟨(some 222), .call 32 [(.t 221)], none⟩,
                                ⟨(some 223), .mv (.t 1), none⟩,
                                ⟨(some 224), .call 57 [(.t 222), (.t 223)], none⟩,
                                ⟨(some 219), .mv (.t 224), none⟩,
                                ⟨(some 225), .extr (.t 219) 0, none⟩,
                                ⟨(some 226), .extr (.t 219) 1, none⟩,
                                ⟨(some 36), .mv (.t 225), none⟩,
                                ⟨(some 37), .mv (.t 226), none⟩])
                              (.seq
                               (.reg none [⟨(some 228), .load (some 2) (.t 33), none⟩,
                                 ⟨(some 229), .call 21 [(.t 228)], none⟩,
                                 ⟨(some 230), .call 32 [(.t 229)], none⟩,
                                 ⟨(some 231), .call 47 [(.t 230)], none⟩,
                                 ⟨(some 227), .mv (.t 231), none⟩,
                                 ⟨(some 232), .extr (.t 227) 0, none⟩,
                                 ⟨(some 233), .extr (.t 227) 1, none⟩,
                                 ⟨(some 38), .mv (.t 232), none⟩,
                                 ⟨(some 39), .mv (.t 233), none⟩])
                               (.seq
                                (.reg none [⟨(some 234), .mv (.t 34), none⟩,
                                  ⟨(some 235), .mv (.t 13), none⟩,
                                  ⟨(some 236), .beq true (.t 234) (.t 235), none⟩,
                                  ⟨(some 237), .mv (.t 236), none⟩,
                                  ⟨(some 238), .mv (.t 36), some (237, false)⟩,
                                  ⟨(some 239), .mv (.t 15), some (237, false)⟩,
                                  ⟨(some 240), .beq true (.t 238) (.t 239), some (237, false)⟩,
                                  ⟨(some 241), .pick (.t 237) (.c (.b true)) (.t 240), none⟩,
                                  ⟨(some 242), .mv (.t 241), none⟩,
                                  ⟨(some 243), .mv (.t 38), some (242, false)⟩,
                                  ⟨(some 244), .mv (.t 17), some (242, false)⟩,
                                  ⟨(some 245), .bin .neq (.t 243) (.t 244), some (242, false)⟩,
                                  ⟨(some 246), .pick (.t 242) (.c (.b true)) (.t 245), none⟩,
                                  ⟨(some 247), .mv (.t 246), none⟩,
                                  ⟨(some 248), .mv (.t 35), some (247, false)⟩,
                                  ⟨(some 249), .bin .neq (.t 248) (.c (.int .i64 0)), some (247, false)⟩,
                                  ⟨(some 250), .pick (.t 247) (.c (.b true)) (.t 249), none⟩,
                                  ⟨(some 251), .mv (.t 250), none⟩,
                                  ⟨(some 252), .mv (.t 37), some (251, false)⟩,
                                  ⟨(some 253), .bin .neq (.t 252) (.c (.int .i64 0)), some (251, false)⟩,
                                  ⟨(some 254), .pick (.t 251) (.c (.b true)) (.t 253), none⟩,
                                  ⟨(some 255), .mv (.t 254), none⟩,
                                  ⟨(some 256), .mv (.t 39), some (255, false)⟩,
                                  ⟨(some 257), .mv (.t 18), some (255, false)⟩,
                                  ⟨(some 258), .bin .neq (.t 256) (.t 257), some (255, false)⟩,
                                  ⟨(some 259), .pick (.t 255) (.c (.b true)) (.t 258), none⟩])
                                (.cond (.t 259)
                                 (.seq
                                  (.reg none [⟨(some 12), .mv (.c (.b false)), none⟩])
                                  .ret)
                                 .skip))))))))
                         (.reg none [⟨(some 260), .bin .add (.t 196) (.c (.int .i64 1)), none⟩,
                           ⟨(some 196), .mv (.t 260), none⟩])))))))
                   (.seq
                    (.reg none [⟨(some 262), .load (some 2) (.t 6), none⟩,
                      ⟨(some 263), .call 32 [(.t 262)], none⟩,
                      ⟨(some 264), .mv (.t 2), none⟩,
                      ⟨(some 265), .call 33 [(.t 263), (.t 264)], none⟩,
                      ⟨(some 261), .mv (.t 265), none⟩,
                      ⟨(some 266), .extr (.t 261) 0, none⟩,
                      ⟨(some 267), .extr (.t 261) 1, none⟩,
                      ⟨(some 40), .alloc [(.int .i64 0), .nils], none⟩,
                      ⟨none, .store 2 (.t 40) (.t 266), none⟩,
                      ⟨(some 14), .mv (.t 267), none⟩])
                    (.seq
                     (.seq
                      (.reg none [⟨(some 268), .mv (.t 14), none⟩,
                        ⟨(some 269), .bin .neq (.t 268) (.c (.int .i64 0)), none⟩,
                        ⟨(some 270), .mv (.t 269), none⟩,
                        ⟨(some 271), .mv (.t 1), some (270, false)⟩,
                        ⟨(some 272), .load (some 2) (.t 6), some (270, false)⟩,
                        ⟨(some 273), .call 39 [(.t 272)], some (270, false)⟩,
                        ⟨(some 274), .bin .geq (.t 271) (.t 273), some (270, false)⟩,
                        ⟨(some 275), .pick (.t 270) (.c (.b true)) (.t 274), none⟩])
                      (.cond (.t 275)
                       (.seq
                        (.reg none [⟨(some 276), .mv (.t 14), none⟩,
                          ⟨(some 277), .bin .eql (.t 276) (.c (.int .i64 0)), none⟩,
                          ⟨(some 278), .mv (.t 277), none⟩,
                          ⟨(some 279), .mv (.t 14), some (278, false)⟩,
                          ⟨(some 280), .bin .eql (.t 279) (.c (.int .i64 4)), some (278, false)⟩,
                          ⟨(some 281), .mv (.t 280), some (278, false)⟩,
                          ⟨(some 282), .load (some 2) (.t 6), some (281, true)⟩,
                          ⟨(some 283), .call 39 [(.t 282)], some (281, true)⟩,
                          ⟨(some 284), .bin .eql (.t 283) (.c (.int .i64 1)), some (281, true)⟩,
                          ⟨(some 285), .pick (.t 281) (.t 284) (.c (.b false)), some (278, false)⟩,
                          ⟨(some 286), .pick (.t 278) (.c (.b true)) (.t 285), none⟩,
                          ⟨(some 287), .mv (.t 286), none⟩,
                          ⟨(some 288), .call 25 [], some (287, true)⟩,
                          ⟨(some 289), .pick (.t 287) (.t 288) (.c (.b false)), none⟩,
                          ⟨(some 12), .mv (.t 289), none⟩])
                        .ret)
                       .skip))
                     (.seq
                      (.reg none [⟨(some 291), .load (some 2) (.t 40), none⟩,
                        ⟨(some 292), .call 21 [(.t 291)], none⟩,
                        ⟨(some 293), .call 32 [(.t 292)], none⟩,
                        ⟨(some 294), .mv (.t 1), none⟩,
                        ⟨(some 295), .call 46 [(.t 293), (.t 294)], none⟩,
                        ⟨(some 290), .mv (.t 295), none⟩,
                        ⟨(some 296), .extr (.t 290) 0, none⟩,
                        ⟨(some 297), .extr (.t 290) 1, none⟩,
                        ⟨(some 41), .mv (.t 296), none⟩,
                        ⟨(some 42), .mv (.t 297), none⟩])
                      (.seq
                       (.reg none [⟨(some 299), .load (some 2) (.t 40), none⟩,
                         ⟨(some 300), .mv (.t 1), none⟩,
                         ⟨(some 301), .call 57 [(.t 299), (.t 300)], none⟩,
                         ⟨(some 298), .mv (.t 301), none⟩,
                         ⟨(some 302), .extr (.t 298) 0, none⟩,
                         ⟨(some 303), .extr (.t 298) 1, none⟩,
                         ⟨(some 43), .mv (.t 302), none⟩,
                         ⟨(some 44), .mv (.t 303), none⟩])
                       (.seq
                        (.reg none [⟨(some 304), .mv (.t 42), none⟩,
                          ⟨(some 305), .bin .eql (.t 304) (.c (.int .i64 0)), none⟩,
                          ⟨(some 306), .mv (.t 305), none⟩,
                          ⟨(some 307), .mv (.t 44), some (306, true)⟩,
                          ⟨(some 308), .bin .eql (.t 307) (.c (.int .i64 0)), some (306, true)⟩,
                          ⟨(some 309), .pick (.t 306) (.t 308) (.c (.b false)), none⟩,
                          ⟨(some 310), .mv (.t 309), none⟩,
                          ⟨(some 311), .mv (.t 13), some (310, true)⟩,
                          ⟨(some 312), .un .not (.t 311), some (310, true)⟩,
                          ⟨(some 313), .mv (.t 312), some (310, true)⟩,
                          ⟨(some 314), .mv (.t 41), some (313, false)⟩,
                          ⟨(some 315), .pick (.t 313) (.c (.b true)) (.t 314), some (310, true)⟩,
                          ⟨(some 316), .pick (.t 310) (.t 315) (.c (.b false)), none⟩,
                          ⟨(some 317), .mv (.t 316), none⟩,
                          ⟨(some 318), .mv (.t 15), some (317, true)⟩,
                          ⟨(some 319), .un .not (.t 318), some (317, true)⟩,
                          ⟨(some 320), .mv (.t 319), some (317, true)⟩,
                          ⟨(some 321), .mv (.t 43), some (320, false)⟩,
                          ⟨(some 322), .pick (.t 320) (.c (.b true)) (.t 321), some (317, true)⟩,
                          ⟨(some 323), .pick (.t 317) (.t 322) (.c (.b false)), none⟩,
                          ⟨(some 324), .mv (.t 323), none⟩,
                          ⟨(some 325), .call 25 [], some (324, true)⟩,
                          ⟨(some 326), .pick (.t 324) (.t 325) (.c (.b false)), none⟩,
                          ⟨(some 12), .mv (.t 326), none⟩])
                        .ret)))))))))))))))))))))) }
theorem f15P : prepF C Try.f15 = some f15A := by kernel_rfl

/-- congou/congoulaw09.ArraysMissing -/
def f16A : AFunc :=
{ nargs := 3, res := [.t 6], body :=
  (.seq
   (.reg none [⟨(some 3), .box (.t 0), none⟩,
     ⟨(some 6), .mv (.c (.b false)), none⟩])
   (.seq
    (.reg none [⟨(some 24), .load (some 2) (.t 3), none⟩,
      ⟨(some 25), .call 32 [(.t 24)], none⟩,
      ⟨(some 26), .mv (.t 1), none⟩,
      ⟨(some 27), .call 61 [(.t 25), (.t 26)], none⟩,
      ⟨(some 23), .mv (.t 27), none⟩,
      ⟨(some 28), .extr (.t 23) 0, none⟩,
      ⟨(some 29), .extr (.t 23) 1, none⟩,
      ⟨(some 7), .mv (.t 28), none⟩,
      ⟨(some 8), .mv (.t 29), none⟩])
    (.seq
     (.reg none [⟨(some 31), .load (some 2) (.t 3), none⟩,
       ⟨(some 32), .call 32 [(.t 31)], none⟩,
       ⟨(some 33), .mv (.t 1), none⟩,
       ⟨(some 34), .call 46 [(.t 32), (.t 33)], none⟩,
       ⟨(some 30), .mv (.t 34), none⟩,
       ⟨(some 35), .extr (.t 30) 0, none⟩,
       ⟨(some 36), .extr (.t 30) 1, none⟩,
       ⟨(some 9), .mv (.t 35), none⟩,
       ⟨(some 10), .mv (.t 36), none⟩])
     (.seq
      (.seq
       (.reg none [⟨(some 37), .mv (.t 8), none⟩,
         ⟨(some 38), .bin .neq (.t 37) (.c (.int .i64 0)), none⟩,
         ⟨(some 39), .mv (.t 38), none⟩,
         ⟨(some 40), .load (some 2) (.t 3), some (39, false)⟩,
         ⟨(some 41), .call 38 [(.t 40)], some (39, false)⟩,
         ⟨(some 42), .un .not (.t 41), some (39, false)⟩,
         ⟨(some 43), .pick (.t 39) (.c (.b true)) (.t 42), none⟩,
         ⟨(some 44), .mv (.t 43), none⟩,
         ⟨(some 45), .mv (.t 1), some (44, false)⟩,
         ⟨(some 46), .bin .lss (.t 45) (.c (.int .i64 1)), some (44, false)⟩,
         ⟨(some 47), .pick (.t 44) (.c (.b true)) (.t 46), none⟩,
         ⟨(some 48), .mv (.t 47), none⟩,
         ⟨(some 49), .mv (.t 1), some (48, false)⟩,
         ⟨(some 50), .bin .gtr (.t 49) (.c (.int .i64 2)), some (48, false)⟩,
         ⟨(some 51), .pick (.t 48) (.c (.b true)) (.t 50), none⟩,
         ⟨(some 52), .mv (.t 51), none⟩,
         ⟨(some 53), .mv (.t 1), some (52, false)⟩,
         ⟨(some 54), .load (some 2) (.t 3), some (52, false)⟩,
         ⟨(some 55), .call 39 [(.t 54)], some (52, false)⟩,
         ⟨(some 56), .bin .gtr (.t 53) (.t 55), some (52, false)⟩,
         ⟨(some 57), .pick (.t 52) (.c (.b true)) (.t 56), none⟩])
       (.cond (.t 57)
        (.seq
         (.reg none [⟨(some 58), .mv (.t 8), none⟩,
           ⟨(some 59), .bin .eql (.t 58) (.c (.int .i64 2)), none⟩,
           ⟨(some 60), .mv (.t 59), none⟩,
           ⟨(some 61), .call 25 [], some (60, true)⟩,
           ⟨(some 62), .pick (.t 60) (.t 61) (.c (.b false)), none⟩,
           ⟨(some 6), .mv (.t 62), none⟩])
         .ret)
        .skip))
      (.seq
       (.seq
        (.reg none [⟨(some 63), .mv (.t 10), none⟩,
          ⟨(some 64), .bin .neq (.t 63) (.c (.int .i64 0)), none⟩,
          ⟨(some 65), .mv (.t 64), none⟩,
          ⟨(some 66), .mv (.t 9), some (65, false)⟩,
          ⟨(some 67), .mv (.t 7), some (65, false)⟩,
          ⟨(some 68), .len (.t 67), some (65, false)⟩,
          ⟨(some 69), .bin .eql (.t 68) (.c (.int .i64 0)), some (65, false)⟩,
          ⟨(some 70), .beq true (.t 66) (.t 69), some (65, false)⟩,
          ⟨(some 71), .pick (.t 65) (.c (.b true)) (.t 70), none⟩,
          ⟨(some 72), .mv (.t 71), none⟩,
          ⟨(some 73), .mv (.t 7), some (72, false)⟩,
          ⟨(some 74), .len (.t 73), some (72, false)⟩,
          ⟨(some 75), .bin .gtr (.t 74) (.c (.int .i64 500)), some (72, false)⟩,
          ⟨(some 76), .pick (.t 72) (.c (.b true)) (.t 75), none⟩])
        (.cond (.t 76)
         (.seq
          (.reg none [⟨(some 6), .mv (.c (.b false)), none⟩])
          .ret)
         .skip))
       (.seq
        (.seq
         (.reg none [⟨(some 77), .mv (.t 7), none⟩,
           ⟨(some 78), .len (.t 77), none⟩,
           ⟨(some 79), .mv (.c (.int .i64 0)), none⟩])
         (.block 0
          (.loop
           (.seq
            (.reg none [⟨(some 80), .bin .lss (.t 79) (.t 78), none⟩])
            (.seq
             (.cond (.t 80)
              .skip
              (.exit 0))
             (.seq
              (.block 1
               (.seq
                (.reg none [⟨(some 81), .mv (.t 79), none⟩,
                  ⟨(some 82), .iaddr 1 (.t 77) (.t 79), none⟩,
                  ⟨(some 83), .load none (.t 82), none⟩,
                  ⟨(some 11), .mv (.t 81), none⟩,
                  ⟨(some 12), .mv (.t 83), none⟩])
                (.seq
                 (.seq
                  (.reg none [⟨(some 84), .mv (.t 12), none⟩,
                    ⟨(some 85), .len (.t 84), none⟩,
                    ⟨(some 86), .mv (.t 1), none⟩,
                    ⟨(some 87), .bin .mul (.c (.int .i64 2)) (.t 86), none⟩,
                    ⟨(some 88), .bin .neq (.t 85) (.t 87), none⟩,
                    ⟨(some 89), .mv (.t 88), none⟩,
                    ⟨(some 90), .mv (.t 11), some (89, false)⟩,
                    ⟨(some 91), .bin .gtr (.t 90) (.c (.int .i64 0)), some (89, false)⟩,
                    ⟨(some 92), .mv (.t 91), some (89, false)⟩,
                    ⟨(some 93), .mv (.t 7), some (92, true)⟩,
                    ⟨(some 94), .mv (.t 11), some (92, true)⟩,
                    ⟨(some 95), .bin .sub (.t 94) (.c (.int .i64 1)), some (92, true)⟩,
                    ⟨(some 96), .iaddr 1 (.t 93) (.t 95), some (92, true)⟩,
                    ⟨(some 97), .load none (.t 96), some (92, true)⟩,
                    ⟨(some 98), .mv (.t 12), some (92, true)⟩,
                    ⟨(some 99), .call 67 [(.t 97), (.t 98)], some (92, true)⟩,
                    ⟨(some 100), .bin .geq (.t 99) (.c (.int .i64 0)), some (92, true)⟩,
                    ⟨(some 101), .pick (.t 92) (.t 100) (.c (.b false)), some (89, false)⟩,
                    ⟨(some 102), .pick (.t 89) (.c (.b true)) (.t 101), none⟩])
                  (.cond (.t 102)
                   (.seq
                    (.reg none [⟨(some 6), .mv (.c (.b false)), none⟩])
                    .ret)
                   .skip))
                 (.seq
                  (.seq
                   (.reg none [⟨(some 103), .mv (.t 1), none⟩,
                     ⟨(some 104), .mv (.c (.int .i64 0)), none⟩])
                   (.block 2
                    (.loop
                     (.seq
                      (.reg none [⟨(some 105), .bin .lss (.t 104) (.t 103), none⟩])
                      (.seq
                       (.cond (.t 105)
                        .skip
                        (.exit 2))
                       (.seq
                        (.block 3
                         (.seq
                          (.reg none [⟨(some 106), .mv (.t 104), none⟩,
                            ⟨(some 13), .mv (.t 106), none⟩])
                          (.seq
                           (.reg (some []) [⟨(some 107), .mv (.t 12), none⟩,
                             ⟨(some 108), .mv (.t 13), none⟩,
                             ⟨(some 109), .iaddr 1 (.t 107) (.t 108), none⟩,
                             ⟨(some 110), .load none (.t 109), none⟩,
                             ⟨(some 111), .bin .lss (.t 110) (.c (.int .i64 0)), none⟩,
                             ⟨(some 112), .mv (.t 111), none⟩,
                             ⟨(some 113), .mv (.t 12), some (112, false)⟩,
                             ⟨(some 114), .mv (.t 13), some (112, false)⟩,
                             ⟨(some 115), .iaddr 1 (.t 113) (.t 114), some (112, false)⟩,
                             ⟨(some 116), .load none (.t 115), some (112, false)⟩,
                             ⟨(some 117), .load (some 2) (.t 3), some (112, false)⟩,
                             ⟨(some 118), .call 39 [(.t 117)], some (112, false)⟩,
                             ⟨(some 119), .bin .geq (.t 116) (.t 118), some (112, false)⟩,
                             ⟨(some 120), .pick (.t 112) (.c (.b true)) (.t 119), none⟩,
                             ⟨(some 121), .mv (.t 120), none⟩,
                             ⟨(some 122), .mv (.t 13), some (121, false)⟩,
                             ⟨(some 123), .bin .gtr (.t 122) (.c (.int .i64 0)), some (121, false)⟩,
                             ⟨(some 124), .mv (.t 123), some (121, false)⟩,
                             ⟨(some 125), .mv (.t 12), some (124, true)⟩,
                             ⟨(some 126), .mv (.t 13), some (124, true)⟩,
                             ⟨(some 127), .bin .sub (.t 126) (.c (.int .i64 1)), some (124, true)⟩,
                             ⟨(some 128), .iaddr 1 (.t 125) (.t 127), some (124, true)⟩,
                             ⟨(some 129), .load none (.t 128), some (124, true)⟩,
                             ⟨(some 130), .mv (.t 12), some (124, true)⟩,
                             ⟨(some 131), .mv (.t 13), some (124, true)⟩,
                             ⟨(some 132), .iaddr 1 (.t 130) (.t 131), some (124, true)⟩,
                             ⟨(some 133), .load none (.t 132), some (124, true)⟩,
                             ⟨(some 134), .bin .geq (.t 129) (.t 133), some (124, true)⟩,
                             ⟨(some 135), .pick (.t 124) (.t 134) (.c (.b false)), some (121, false)⟩,
                             ⟨(some 136), .pick (.t 121) (.c (.b true)) (.t 135), none⟩,
                             ⟨(some 137), .mv (.t 136), none⟩,
                             ⟨(some 138), .mv (.t 12), some (137, false)⟩,
                             ⟨(some 139), .mv (.t 1), some (137, false)⟩,
                             ⟨(some 140), .mv (.t 13), some (137, false)⟩,
                             ⟨(some 141), .bin .add (.t 139) (.t 140), some (137, false)⟩,
                             ⟨(some 142), .iaddr 1 (.t 138) (.t 141), some (137, false)⟩,
                             ⟨(some 143), .load none (.t 142), some (137, false)⟩,
                             ⟨(some 144), .bin .lss (.t 143) (.c (.int .i64 0)), some (137, false)⟩,
                             ⟨(some 145), .pick (.t 137) (.c (.b true)) (.t 144), none⟩,
                             ⟨(some 146), .mv (.t 145), none⟩,
                             ⟨(some 147), .mv (.t 12), some (146, false)⟩,
                             ⟨(some 148), .mv (.t 1), some (146, false)⟩,
                             ⟨(some 149), .mv (.t 13), some (146, false)⟩,
                             ⟨(some 150), .bin .add (.t 148) (.t 149), some (146, false)⟩,
                             ⟨(some 151), .iaddr 1 (.t 147) (.t 150), some (146, false)⟩,
                             ⟨(some 152), .load none (.t 151), some (146, false)⟩,
                             ⟨(some 153), .faddr 0 (.t 3), some (146, false)⟩,
                             ⟨(some 154), .load none (.t 153), some (146, false)⟩,
                             ⟨(some 155), .bin .geq (.t 152) (.t 154), some (146, false)⟩,
                             ⟨(some 156), .pick (.t 146) (.c (.b true)) (.t 155), none⟩])
                           (.cond (.t 156)
                            (.seq
                             (.reg none [⟨(some 6), .mv (.c (.b false)), none⟩])
                             .ret)
                            .skip))))
                        (.reg none [⟨(some 157), .bin .add (.t 104) (.c (.int .i64 1)), none⟩,
                          ⟨(some 104), .mv (.t 157), none⟩])))))))
                  (.seq
                   (.reg none [⟨(some 158), .faddr 1 (.t 3), none⟩,
                     ⟨(some 159), .load none (.t 158), none⟩,
                     ⟨(some 160), .len (.t 159), none⟩,
                     ⟨(some 161), .mv (.c (.int .i64 0)), none⟩])
                   (.block 4
                    (.loop
                     (.seq
                      (.reg none [⟨(some 162), .bin .lss (.t 161) (.t 160), none⟩])
                      (.seq
                       (.cond (.t 162)
                        .skip
                        (.exit 4))
                       (.seq
                        (.block 5
                         (.seq
                          (.reg none [⟨(some 163), .iaddr 1 (.t 159) (.t 161), none⟩,
                            ⟨(some 164), .load none (.t 163), none⟩,
                            ⟨(some 15), .mv (.t 164), none⟩])
                          (.seq
                           (.reg none [⟨(some 16), .mv (.c (.b true)), none⟩])
                           (.seq
                            (.seq
                             (.reg none [⟨(some 165), .mv (.t 1), none⟩,
                               ⟨(some 166), .mv (.c (.int .i64 0)), none⟩])
                             (.block 6
                              (.loop
                               (.seq
                                (.reg none [⟨(some 167), .bin .lss (.t 166) (.t 165), none⟩])
                                (.seq
                                 (.cond (.t 167)
                                  .skip
                                  (.exit 6))
                                 (.seq
                                  (.block 7
                                   (.seq
                                    (.reg none [⟨(some 168), .mv (.t 166), none⟩,
                                      ⟨(some 17), .mv (.t 168), none⟩])
                                    (.reg (some []) [⟨(some 169), .mv (.t 16), none⟩,
                                      ⟨(some 170), .mv (.t 169), none⟩,
                                      ⟨(some 171), .mv (.t 15), some (170, true)⟩,
                                      ⟨(some 172), .mv (.t 12), some (170, true)⟩,
                                      ⟨(some 173), .mv (.t 17), some (170, true)⟩,
                                      ⟨(some 174), .iaddr 1 (.t 172) (.t 173), some (170, true)⟩,
                                      ⟨(some 175), .load none (.t 174), some (170, true)⟩,
                                      ⟨(some 176), .iaddr 1 (.t 171) (.t 175), some (170, true)⟩,
                                      ⟨(some 177), .load none (.t 176), some (170, true)⟩,
                                      ⟨(some 178), .mv (.t 12), some (170, true)⟩,
                                      ⟨(some 179), .mv (.t 1), some (170, true)⟩,
                                      ⟨(some 180), .mv (.t 17), some (170, true)⟩,
                                      ⟨(some 181), .bin .add (.t 179) (.t 180), some (170, true)⟩,
                                      ⟨(some 182), .iaddr 1 (.t 178) (.t 181), some (170, true)⟩,
                                      ⟨(some 183), .load none (.t 182), some (170, true)⟩,
                                      ⟨(some 184), .bin .eql (.t 177) (.t 183), some (170, true)⟩,
                                      ⟨(some 185), .pick (.t 170) (.t 184) (.c (.b false)), none⟩,
                                      ⟨(some 16), .mv (.t 185), none⟩])))
                                  (.reg none [⟨(some 186), .bin .add (.t 166) (.c (.int .i64 1)), none⟩,
                                    ⟨(some 166), .mv (.t 186), none⟩])))))))
                            (.seq
                             (.reg none [⟨(some 187), .mv (.t 16), none⟩])
                             (.cond (.t 187)
                              (.seq
                               (.reg none [⟨(some 6), .mv (.c (.b false)), none⟩])
                               .ret)
                              .skip))))))
                        (.reg none [⟨(some 188), .bin .add (.t 161) (.c (.int .i64 1)), none⟩,
                          ⟨(some 161), .mv (.t 188), none⟩])))))))))))
              (.reg none [⟨(some 189), .bin .add (.t 79) (.c (.int .i64 1)), none⟩,
                ⟨(some 79), .mv (.t 189), none⟩])))))))
        (.seq
         (.seq
          (.reg none [⟨(some 190), .mv (.t 9), none⟩,
            ⟨(some 191), .mv (.t 190), none⟩,
            ⟨(some 192), .faddr 1 (.t 3), some (191, false)⟩,
            ⟨(some 193), .load none (.t 192), some (191, false)⟩,
            ⟨(some 194), .len (.t 193), some (191, false)⟩,
            ⟨(some 195), .bin .eql (.t 194) (.c (.int .i64 16)), some (191, false)⟩,
            ⟨(some 196), .pick (.t 191) (.c (.b true)) (.t 195), none⟩])
          (.cond (.t 196)
           (.seq
            (.reg none [⟨(some 197), .call 25 [], none⟩,
              ⟨(some 6), .mv (.t 197), none⟩])
            .ret)
           .skip))
         (.seq
          (.reg none [⟨(some 198), .mv (.t 7), none⟩,
            ⟨(some 199), .mv (.t 2), none⟩,
            ⟨(some 200), .conv .u64 (.t 199), none⟩,
            ⟨(some 201), .mv (.t 7), none⟩,
            ⟨(some 202), .len (.t 201), none⟩,
            ⟨(some 203), .conv .u64 (.t 202), none⟩,
            ⟨(some 204), .bin .rem (.t 200) (.t 203), none⟩,
            ⟨(some 205), .conv .i64 (.t 204), none⟩,
            ⟨(some 206), .iaddr 1 (.t 198) (.t 205), none⟩,
            ⟨(some 207), .load none (.t 206), none⟩,
            ⟨(some 18), .alloc [.nils], none⟩,
            ⟨none, .store 1 (.t 18) (.t 207), none⟩])
          (.seq
           (.reg none [⟨(some 208), .faddr 1 (.t 3), none⟩,
             ⟨(some 209), .load none (.t 208), none⟩,
             ⟨(some 210), .iaddr 1 (.t 209) (.c (.int .i64 0)), none⟩,
             ⟨(some 211), .load none (.t 210), none⟩,
             ⟨(some 212), .call 35 [(.t 211)], none⟩,
             ⟨(some 19), .mv (.t 212), none⟩])
           (.seq
            (.seq
             (.reg none [⟨(some 213), .mv (.t 1), none⟩,
               ⟨(some 214), .mv (.c (.int .i64 0)), none⟩])
             (.block 8
              (.loop
               (.seq
                (.reg none [⟨(some 215), .bin .lss (.t 214) (.t 213), none⟩])
                (.seq
                 (.cond (.t 215)
                  .skip
                  (.exit 8))
                 (.seq
                  (.block 9
                   (.seq
                    (.reg none [⟨(some 216), .mv (.t 214), none⟩,
                      ⟨(some 20), .mv (.t 216), none⟩])
                    (.reg (some []) [⟨(some 217), .mv (.t 19), none⟩,
                      ⟨(some 218), .load none (.t 18), none⟩,
                      ⟨(some 219), .mv (.t 20), none⟩,
                      ⟨(some 220), .iaddr 1 (.t 218) (.t 219), none⟩,
                      ⟨(some 221), .load none (.t 220), none⟩,
                      ⟨(some 222), .load none (.t 18), none⟩,
                      ⟨(some 223), .mv (.t 1), none⟩,
                      ⟨(some 224), .mv (.t 20), none⟩,
                      ⟨(some 225), .bin .add (.t 223) (.t 224), none⟩,
                      ⟨(some 226), .iaddr 1 (.t 222) (.t 225), none⟩,
                      ⟨(some 227), .load none (.t 226), none⟩,
                      ⟨(some 228), .iaddr 1 (.t 217) (.t 221), none⟩,
                      ⟨none, .store 1 (.t 228) (.t 227), none⟩])))
                  (.reg none [⟨(some 229), .bin .add (.t 214) (.c (.int .i64 1)), none⟩,
                    ⟨(some 214), .mv (.t 229), none⟩])))))))
            (.seq
             (.reg none [⟨(some 230), .load (some 2) (.t 3), none⟩,
               ⟨(some 231), .call 32 [(.t 230)], none⟩,
               ⟨(some 21), .alloc [(.int .i64 0), .nils], none⟩,
               ⟨none, .store 2 (.t 21) (.t 231), none⟩])
             (.seq
              (.reg none [⟨(some 232), .faddr 1 (.t 21), none⟩,
                ⟨(some 233), .load none (.t 232), none⟩,
                ⟨(some 234), .mv (.t 19), none⟩,
                ⟨(some 235), .bslice [.nils] 1 1 [(0, (.t 234))], none⟩,
                ⟨(some 236), .append 1 24 (.t 233) (.t 235), none⟩,
                ⟨(some 237), .faddr 1 (.t 21), none⟩,
                ⟨none, .store 1 (.t 237) (.t 236), none⟩])
              (.seq
               (.reg none [⟨(some 239), .load (some 2) (.t 21), none⟩,
                 ⟨(some 240), .mv (.t 1), none⟩,
                 ⟨(some 241), .call 61 [(.t 239), (.t 240)], none⟩,
                 ⟨(some 238), .mv (.t 241), none⟩,
                 ⟨(some 242), .extr (.t 238) 0, none⟩,
                 ⟨(some 243), .extr (.t 238) 1, none⟩,
                 ⟨(some 22), .mv (.t 242), none⟩,
                 ⟨(some 8), .mv (.t 243), none⟩])
               (.seq
                (.reg none [⟨(some 244), .mv (.t 8), none⟩,
                  ⟨(some 245), .bin .eql (.t 244) (.c (.int .i64 0)), none⟩,
                  ⟨(some 246), .mv (.t 245), none⟩,
                  ⟨(some 247), .mv (.t 22), some (246, true)⟩,
                  ⟨(some 248), .len (.t 247), some (246, true)⟩,
                  ⟨(some 249), .mv (.t 7), some (246, true)⟩,
                  ⟨(some 250), .len (.t 249), some (246, true)⟩,
                  ⟨(some 251), .bin .lss (.t 248) (.t 250), some (246, true)⟩,
                  ⟨(some 252), .pick (.t 246) (.t 251) (.c (.b false)), none⟩,
                  ⟨(some 253), .mv (.t 252), none⟩,
                  ⟨(some 254), .mv (.t 22), some (253, true)⟩,
                  ⟨(some 255), .mkfn 69 [] [(.t 18)], some (253, true)⟩,
                  ⟨(some 256), .call 68 [(.t 254), (.t 255)], some (253, true)⟩,
                  ⟨(some 257), .un .not (.t 256), some (253, true)⟩,
                  ⟨(some 258), .pick (.t 253) (.t 257) (.c (.b false)), none⟩,
                  ⟨(some 259), .mv (.t 258), none⟩,
                  ⟨(some 260), .call 25 [], some (259, true)⟩,
                  ⟨(some 261), .pick (.t 259) (.t 260) (.c (.b false)), none⟩,
                  ⟨(some 6), .mv (.t 261), none⟩])
                .ret)))))))))))))) }
theorem f16P : prepF C Try.f16 = some f16A := by kernel_rfl

/-- congou/congoulaw09.ArraysTogether -/
def f17A : AFunc :=
{ nargs := 3, res := [.t 6], body :=
  (.seq
   (.reg none [⟨(some 3), .box (.t 0), none⟩,
     ⟨(some 4), .box (.t 1), none⟩,
     ⟨(some 6), .mv (.c (.b false)), none⟩])
   (.seq
    (.reg (some []) [⟨(some 31), .load (some 2) (.t 3), none⟩,
      ⟨(some 32), .call 32 [(.t 31)], none⟩,
      ⟨(some 33), .load (some 2) (.t 4), none⟩,
      ⟨(some 34), .call 32 [(.t 33)], none⟩,
      ⟨(some 35), .call 31 [(.t 32), (.t 34)], none⟩,
      ⟨(some 30), .mv (.t 35), none⟩,
      ⟨(some 36), .extr (.t 30) 0, none⟩,
      ⟨(some 37), .extr (.t 30) 1, none⟩,
      ⟨(some 7), .alloc [(.int .i64 0), .nils], none⟩,
      ⟨none, .store 2 (.t 7) (.t 36), none⟩,
      ⟨(some 8), .mv (.t 37), none⟩])
    (.seq
     (.seq
      (.reg none [⟨(some 38), .mv (.t 8), none⟩,
        ⟨(some 39), .bin .neq (.t 38) (.c (.int .i64 0)), none⟩,
        ⟨(some 40), .mv (.t 39), none⟩,
        ⟨(some 41), .load (some 2) (.t 3), some (40, false)⟩,
        ⟨(some 42), .load (some 2) (.t 4), some (40, false)⟩,
        ⟨(some 43), .call 36 [(.t 41), (.t 42)], some (40, false)⟩,
        ⟨(some 44), .un .not (.t 43), some (40, false)⟩,
        ⟨(some 45), .pick (.t 40) (.c (.b true)) (.t 44), none⟩,
        ⟨(some 46), .mv (.t 45), none⟩,
        ⟨(some 47), .load (some 2) (.t 7), some (46, false)⟩,
        ⟨(some 48), .call 21 [(.t 47)], some (46, false)⟩,
        ⟨(some 49), .call 38 [(.t 48)], some (46, false)⟩,
        ⟨(some 50), .un .not (.t 49), some (46, false)⟩,
        ⟨(some 51), .pick (.t 46) (.c (.b true)) (.t 50), none⟩])
      (.cond (.t 51)
       (.seq
        (.reg none [⟨(some 52), .mv (.t 8), none⟩,
          ⟨(some 53), .bin .eql (.t 52) (.c (.int .i64 2)), none⟩,
          ⟨(some 54), .mv (.t 53), none⟩,
          ⟨(some 55), .mv (.t 8), some (54, false)⟩,
          ⟨(some 56), .bin .eql (.t 55) (.c (.int .i64 6)), some (54, false)⟩,
          ⟨(some 57), .pick (.t 54) (.c (.b true)) (.t 56), none⟩,
          ⟨(some 58), .mv (.t 57), none⟩,
          ⟨(some 59), .call 25 [], some (58, true)⟩,
          ⟨(some 60), .pick (.t 58) (.t 59) (.c (.b false)), none⟩,
          ⟨(some 6), .mv (.t 60), none⟩])
        .ret)
       .skip))
     (.seq
      (.reg none [⟨(some 62), .load (some 2) (.t 3), none⟩,
        ⟨(some 63), .call 32 [(.t 62)], none⟩,
        ⟨(some 64), .mv (.t 2), none⟩,
        ⟨(some 65), .call 46 [(.t 63), (.t 64)], none⟩,
        ⟨(some 61), .mv (.t 65), none⟩,
        ⟨(some 66), .extr (.t 61) 0, none⟩,
        ⟨(some 67), .extr (.t 61) 1, none⟩,
        ⟨(some 9), .mv (.t 66), none⟩,
        ⟨(some 10), .mv (.t 67), none⟩])
      (.seq
       (.reg none [⟨(some 69), .load (some 2) (.t 4), none⟩,
         ⟨(some 70), .call 32 [(.t 69)], none⟩,
         ⟨(some 71), .mv (.t 2), none⟩,
         ⟨(some 72), .call 46 [(.t 70), (.t 71)], none⟩,
         ⟨(some 68), .mv (.t 72), none⟩,
         ⟨(some 73), .extr (.t 68) 0, none⟩,
         ⟨(some 74), .extr (.t 68) 1, none⟩,
         ⟨(some 11), .mv (.t 73), none⟩,
         ⟨(some 12), .mv (.t 74), none⟩])
       (.seq
        (.reg none [⟨(some 76), .load (some 2) (.t 7), none⟩,
          ⟨(some 77), .call 21 [(.t 76)], none⟩,
          ⟨(some 78), .call 32 [(.t 77)], none⟩,
          ⟨(some 79), .mv (.t 2), none⟩,
          ⟨(some 80), .call 46 [(.t 78), (.t 79)], none⟩,
          ⟨(some 75), .mv (.t 80), none⟩,
          ⟨(some 81), .extr (.t 75) 0, none⟩,
          ⟨(some 82), .extr (.t 75) 1, none⟩,
          ⟨(some 13), .mv (.t 81), none⟩,
          ⟨(some 14), .mv (.t 82), none⟩])
        (.seq
         (.seq
          (.reg none [⟨(some 83), .load (some 2) (.t 3), none⟩,
            ⟨(some 84), .mv (.t 2), none⟩,
            ⟨(some 85), .call 52 [(.t 83), (.t 84)], none⟩,
            ⟨(some 86), .un .not (.t 85), none⟩])
          (.cond (.t 86)
           (.seq
            (.reg none [⟨(some 87), .mv (.t 10), none⟩,
              ⟨(some 88), .bin .eql (.t 87) (.c (.int .i64 2)), none⟩,
              ⟨(some 89), .mv (.t 88), none⟩,
              ⟨(some 90), .mv (.t 12), some (89, true)⟩,
              ⟨(some 91), .mv (.t 10), some (89, true)⟩,
              ⟨(some 92), .bin .eql (.t 90) (.t 91), some (89, true)⟩,
              ⟨(some 93), .pick (.t 89) (.t 92) (.c (.b false)), none⟩,
              ⟨(some 94), .mv (.t 93), none⟩,
              ⟨(some 95), .mv (.t 14), some (94, true)⟩,
              ⟨(some 96), .mv (.t 10), some (94, true)⟩,
              ⟨(some 97), .bin .eql (.t 95) (.t 96), some (94, true)⟩,
              ⟨(some 98), .pick (.t 94) (.t 97) (.c (.b false)), none⟩,
              ⟨(some 99), .mv (.t 98), none⟩,
              ⟨(some 100), .call 25 [], some (99, true)⟩,
              ⟨(some 101), .pick (.t 99) (.t 100) (.c (.b false)), none⟩,
              ⟨(some 6), .mv (.t 101), none⟩])
            .ret)
           .skip))
         (.seq
          (.seq
           (.reg none [⟨(some 102), .mv (.t 10), none⟩,
             ⟨(some 103), .bin .neq (.t 102) (.c (.int .i64 0)), none⟩,
             ⟨(some 104), .mv (.t 103), none⟩,
             ⟨(some 105), .mv (.t 12), some (104, false)⟩,
             ⟨(some 106), .bin .neq (.t 105) (.c (.int .i64 0)), some (104, false)⟩,
             ⟨(some 107), .pick (.t 104) (.c (.b true)) (.t 106), none⟩,
             ⟨(some 108), .mv (.t 107), none⟩,
             ⟨(some 109), .mv (.t 14), some (108, false)⟩,
             ⟨(some 110), .bin .neq (.t 109) (.c (.int .i64 0)), some (108, false)⟩,
             ⟨(some 111), .pick (.t 108) (.c (.b true)) (.t 110), none⟩,
             ⟨(some 112), .mv (.t 111), none⟩,
             ⟨(some 113), .mv (.t 9), some (112, false)⟩,
             ⟨(some 114), .mv (.t 113), some (112, false)⟩,
             ⟨(some 115), .mv (.t 11), some (114, false)⟩,
             ⟨(some 116), .pick (.t 114) (.c (.b true)) (.t 115), some (112, false)⟩,
             ⟨(some 117), .mv (.t 116), some (112, false)⟩,
             ⟨(some 118), .mv (.t 13), some (117, true)⟩,
             ⟨(some 119), .un .not (.t 118), some (117, true)⟩,
             ⟨(some 120), .pick (.t 117) (.t 119) (.c (.b false)), some (112, false)⟩,
             ⟨(some 121), .pick (.t 112) (.c (.b true)) (.t 120), none⟩])
           (.cond (.t 121)
            (.seq
             (.reg none [⟨(some 6), .mv (.c (.b false)), none⟩])
             .ret)
            .skip))
          (.seq
           (.reg none [⟨(some 123), .load (some 2) (.t 3), none⟩,
             ⟨(some 124), .call 32 [(.t 123)], none⟩,
             ⟨(some 125), .mv (.t 2), none⟩,
             ⟨(some 126), .call 48 [(.t 124), (.t 125)], none⟩,
             ⟨(some 122), .mv (.t 126), none⟩,
             ⟨(some 127), .extr (.t 122) 0, none⟩,
             ⟨(some 128), .extr (.t 122) 1, none⟩,
             ⟨(some 15), .mv (.t 127), none⟩,
             ⟨(some 16), .mv (.t 128), none⟩])
           (.seq
            (.reg none [⟨(some 130), .load (some 2) (.t 4), none⟩,
              ⟨(some 131), .call 32 [(.t 130)], none⟩,
              ⟨(some 132), .mv (.t 2), none⟩,
              ⟨(some 133), .call 48 [(.t 131), (.t 132)], none⟩,
              ⟨(some 129), .mv (.t 133), none⟩,
              ⟨(some 134), .extr (.t 129) 0, none⟩,
              ⟨(some 135), .extr (.t 129) 1, none⟩,
              ⟨(some 17), .mv (.t 134), none⟩,
              ⟨(some 18), .mv (.t 135), none⟩])
            (.seq
             (.reg none [⟨(some 137), .load (some 2) (.t 7), none⟩,
               ⟨(some 138), .call 21 [(.t 137)], none⟩,
               ⟨(some 139), .call 32 [(.t 138)], none⟩,
               ⟨(some 140), .mv (.t 2), none⟩,
               ⟨(some 141), .call 48 [(.t 139), (.t 140)], none⟩,
               ⟨(some 136), .mv (.t 141), none⟩,
               ⟨(some 142), .extr (.t 136) 0, none⟩,
               ⟨(some 143), .extr (.t 136) 1, none⟩,
               ⟨(some 19), .mv (.t 142), none⟩,
               ⟨(some 20), .mv (.t 143), none⟩])
             (.seq
              (.seq
               (.reg none [⟨(some 144), .mv (.t 16), none⟩,
                 ⟨(some 145), .bin .eql (.t 144) (.c (.int .i64 0)), none⟩,
                 ⟨(some 146), .mv (.t 145), none⟩,
                 ⟨(some 147), .mv (.t 18), some (146, true)⟩,
                 ⟨(some 148), .bin .eql (.t 147) (.c (.int .i64 0)), some (146, true)⟩,
                 ⟨(some 149), .pick (.t 146) (.t 148) (.c (.b false)), none⟩,
                 ⟨(some 150), .mv (.t 149), none⟩,
                 ⟨(some 151), .mv (.t 20), some (150, true)⟩,
                 ⟨(some 152), .bin .neq (.t 151) (.c (.int .i64 0)), some (150, true)⟩,
                 ⟨(some 153), .mv (.t 152), some (150, true)⟩,
                 ⟨(some 154), .mv (.t 19), some (153, false)⟩,
                 ⟨(some 155), .mv (.t 15), some (153, false)⟩,
                 ⟨(some 156), .mv (.t 17), some (153, false)⟩,
                 ⟨(some 157), .bin .add (.t 155) (.t 156), some (153, false)⟩,
                 ⟨(some 158), .bin .neq (.t 154) (.t 157), some (153, false)⟩,
                 ⟨(some 159), .pick (.t 153) (.c (.b true)) (.t 158), some (150, true)⟩,
                 ⟨(some 160), .pick (.t 150) (.t 159) (.c (.b false)), none⟩])
               (.cond (.t 160)
                (.seq
                 (.reg none [⟨(some 6), .mv (.c (.b false)), none⟩])
                 .ret)
                .skip))
              (.seq
               (.seq
                (.reg none [⟨(some 161), .mv (.t 2), none⟩,
                  ⟨(some 162), .bin .gtr (.t 161) (.c (.int .i64 2)), none⟩])
                (.cond (.t 162)
                 (.seq
                  (.reg none [⟨(some 163), .call 25 [], none⟩,
                    ⟨(some 6), .mv (.t 163), none⟩])
                  .ret)
                 .skip))
               (.seq
                (.reg none [⟨(some 165), .load (some 2) (.t 3), none⟩,
                  ⟨(some 166), .call 32 [(.t 165)], none⟩,
                  ⟨(some 167), .mv (.t 2), none⟩,
                  ⟨(some 168), .call 61 [(.t 166), (.t 167)], none⟩,
                  ⟨(some 164), .mv (.t 168), none⟩,
                  ⟨(some 169), .extr (.t 164) 0, none⟩,
                  ⟨(some 170), .extr (.t 164) 1, none⟩,
                  ⟨(some 21), .mv (.t 169), none⟩,
                  ⟨(some 22), .mv (.t 170), none⟩])
                (.seq
                 (.reg none [⟨(some 172), .load (some 2) (.t 4), none⟩,
                   ⟨(some 173), .call 32 [(.t 172)], none⟩,
                   ⟨(some 174), .mv (.t 2), none⟩,
                   ⟨(some 175), .call 61 [(.t 173), (.t 174)], none⟩,
                   ⟨(some 171), .mv (.t 175), none⟩,
                   ⟨(some 176), .extr (.t 171) 0, none⟩,
                   ⟨(some 177), .extr (.t 171) 1, none⟩,
                   ⟨(some 23), .mv (.t 176), none⟩,
                   ⟨(some 24), .mv (.t 177), none⟩])
                 (.seq
                  (.reg none [⟨(some 179), .load (some 2) (.t 7), none⟩,
                    ⟨(some 180), .mv (.t 2), none⟩,
                    ⟨(some 181), .call 61 [(.t 179), (.t 180)], none⟩,
                    ⟨(some 178), .mv (.t 181), none⟩,
                    ⟨(some 182), .extr (.t 178) 0, none⟩,
                    ⟨(some 183), .extr (.t 178) 1, none⟩,
                    ⟨(some 25), .mv (.t 182), none⟩,
                    ⟨(some 26), .mv (.t 183), none⟩])
                  (.seq
                   (.reg none [⟨(some 27), .mv (.c .nils), none⟩])
                   (.seq
                    (.seq
                     (.reg none [⟨(some 184), .mv (.t 21), none⟩,
                       ⟨(some 185), .len (.t 184), none⟩,
                       ⟨(some 186), .mv (.c (.int .i64 0)), none⟩])
                     (.block 0
                      (.loop
                       (.seq
                        (.reg none [⟨(some 187), .bin .lss (.t 186) (.t 185), none⟩])
                        (.seq
                         (.cond (.t 187)
                          .skip
                          (.exit 0))
                         (.seq
                          (.block 1
                           (.seq
                            (.reg none [⟨(some 188), .iaddr 1 (.t 184) (.t 186), none⟩,
                              ⟨(some 189), .load none (.t 188), none⟩,
                              ⟨(some 29), .alloc [.nils], none⟩,
                              ⟨none, .store 1 (.t 29) (.t 189), none⟩])
                            (.seq
                             (.reg none [⟨(some 190), .mv (.t 23), none⟩,
                               ⟨(some 191), .mkfn 70 [] [(.t 29)], none⟩,
                               ⟨(some 192), .call 68 [(.t 190), (.t 191)], none⟩])
                             (.cond (.t 192)
                              (.reg none [⟨(some 193), .mv (.t 27), none⟩,
                                ⟨(some 194), .load none (.t 29), none⟩,
                                ⟨(some 195), .bslice [.nils] 1 1 [(0, (.t 194))], none⟩,
                                ⟨(some 196), .append 1 24 (.t 193) (.t 195), none⟩,
                                ⟨(some 27), .mv (.t 196), none⟩])
                              .skip))))
                          (.reg none [⟨(some 197), .bin .add (.t 186) (.c (.int .i64 1)), none⟩,
                            ⟨(some 186), .mv (.t 197), none⟩])))))))
                    (.seq
                     (.reg none [⟨(some 198), .mv (.t 22), none⟩,
                       ⟨(some 199), .bin .eql (.t 198) (.c (.int .i64 0)), none⟩,
                       ⟨(some 200), .mv (.t 199), none⟩,
                       ⟨(some 201), .mv (.t 24), some (200, true)⟩,
                       ⟨(some 202), .bin .eql (.t 201) (.c (.int .i64 0)), some (200, true)⟩,
                       ⟨(some 203), .pick (.t 200) (.t 202) (.c (.b false)), none⟩,
                       ⟨(some 204), .mv (.t 203), none⟩,
                       ⟨(some 205), .mv (.t 26), some (204, true)⟩,
                       ⟨(some 206), .bin .eql (.t 205) (.c (.int .i64 0)), some (204, true)⟩,
                       ⟨(some 207), .pick (.t 204) (.t 206) (.c (.b false)), none⟩,
                       ⟨(some 208), .mv (.t 207), none⟩,
                       ⟨(some 209), .mv (.t 25), some (208, true)⟩,
                       ⟨(some 210), .mv (.t 27), some (208, true)⟩,
                       ⟨(some 211), .call 65 [(.t 209), (.t 210), (.c (.fn 55 [] []))], some (208, true)⟩,
                       ⟨(some 212), .pick (.t 208) (.t 211) (.c (.b false)), none⟩,
                       ⟨(some 213), .mv (.t 212), none⟩,
                       ⟨(some 214), .call 25 [], some (213, true)⟩,
                       ⟨(some 215), .pick (.t 213) (.t 214) (.c (.b false)), none⟩,
                       ⟨(some 6), .mv (.t 215), none⟩])
                     .ret))))))))))))))))))) }
theorem f17P : prepF C Try.f17 = some f17A := by kernel_rfl

/-- congou/arrays.Lines -/
def f18A : AFunc :=
{ nargs := 1, res := [.c 2 (some 2), .t 3], body :=
  (.seq
   (.reg none [⟨(some 2), .alloc [(.int .i64 0), .nils], none⟩,
     ⟨(some 3), .mv (.c (.int .i64 0)), none⟩])
   (.seq
    (.seq
     (.reg none [⟨(some 9), .mv (.t 0), none⟩,
       ⟨(some 10), .bin .lss (.t 9) (.c (.int .i64 2)), none⟩,
       ⟨(some 11), .mv (.t 10), none⟩,
       ⟨(some 12), .mv (.t 0), some (11, false)⟩,
       ⟨(some 13), .bin .gtr (.t 12) (.c (.int .i64 3)), some (11, false)⟩,
       ⟨(some 14), .pick (.t 11) (.c (.b true)) (.t 13), none⟩])
     (.cond (.t 14)
      (.seq
       (.reg none [⟨(some 15), .build [(.int .i64 0), .nils] [], none⟩,
         ⟨none, .store 2 (.t 2) (.t 15), none⟩,
         ⟨(some 3), .mv (.c (.int .i64 2)), none⟩])
       .ret)
      .skip))
    (.seq
     (.reg none [⟨(some 16), .mv (.t 0), none⟩,
       ⟨(some 17), .build [(.int .i64 0), .nils] [(0, 1, (.t 16))], none⟩,
       ⟨(some 4), .alloc [(.int .i64 0), .nils], none⟩,
       ⟨none, .store 2 (.t 4) (.t 17), none⟩])
     (.seq
      (.seq
       (.reg none [⟨(some 18), .mv (.t 0), none⟩,
         ⟨(some 19), .mv (.c (.int .i64 0)), none⟩])
       (.block 0
        (.loop
         (.seq
          (.reg none [⟨(some 20), .bin .lss (.t 19) (.t 18), none⟩])
          (.seq
           (.cond (.t 20)
            .skip
            (.exit 0))
           (.seq
            (.block 1
             (.seq
              (.reg none [⟨(some 21), .mv (.t 19), none⟩,
                ⟨(some 5), .mv (.t 21), none⟩])
              (.seq
               (.reg none [⟨(some 22), .mv (.t 0), none⟩,
                 ⟨(some 23), .mv (.c (.int .i64 0)), none⟩])
               (.block 2
                (.loop
                 (.seq
                  (.reg none [⟨(some 24), .bin .lss (.t 23) (.t 22), none⟩])
                  (.seq
                   (.cond (.t 24)
                    .skip
                    (.exit 2))
                   (.seq
                    (.block 3
                     (.seq
                      (.reg none [⟨(some 25), .mv (.t 23), none⟩,
                        ⟨(some 6), .mv (.t 25), none⟩])
                      (.seq
                       (.reg none [⟨(some 7), .mv (.c .nils), none⟩])
                       (.seq
                        (.seq
                         (.reg none [⟨(some 26), .mv (.t 0), none⟩,
                           ⟨(some 27), .mv (.c (.int .i64 0)), none⟩])
                         (.block 4
                          (.loop
                           (.seq
                            (.reg none [⟨(some 28), .bin .lss (.t 27) (.t 26), none⟩])
                            (.seq
                             (.cond (.t 28)
                              .skip
                              (.exit 4))
                             (.seq
                              (.block 5
                               (.seq
                                (.reg none [⟨(some 29), .mv (.t 27), none⟩,
                                  ⟨(some 8), .mv (.t 29), none⟩])
                                (.reg none [⟨(some 30), .mv (.t 7), none⟩,
                                  ⟨(some 31), .mv (.t 5), none⟩,
                                  ⟨(some 32), .mv (.t 8), none⟩,
                                  ⟨(some 33), .bin .mul (.t 31) (.t 32), none⟩,
                                  ⟨(some 34), .mv (.t 6), none⟩,
                                  ⟨(some 35), .bin .add (.t 33) (.t 34), none⟩,
                                  ⟨(some 36), .mv (.t 0), none⟩,
                                  ⟨(some 37), .bin .rem (.t 35) (.t 36), none⟩,
                                  ⟨(some 38), .bslice [(.int .i64 0)] 1 1 [(0, (.t 37))], none⟩,
                                  ⟨(some 39), .append 1 8 (.t 30) (.t 38), none⟩,
                                  ⟨(some 7), .mv (.t 39), none⟩])))
                              (.reg none [⟨(some 40), .bin .add (.t 27) (.c (.int .i64 1)), none⟩,
                                ⟨(some 27), .mv (.t 40), none⟩])))))))
                        (.reg (some [(1, 5)]) [⟨(some 41), .faddr 1 (.t 4), none⟩,
                          ⟨(some 42), .load none (.t 41), none⟩,
                          ⟨(some 43), .mv (.t 7), none⟩,
                          ⟨(some 44), .mv (.t 5), none⟩,
                          ⟨(some 45), .bslice [(.int .i64 0)] 1 1 [(0, (.t 44))], none⟩,
                          ⟨(some 46), .append 1 8 (.t 43) (.t 45), none⟩,
                          ⟨(some 47), .bslice [.nils] 1 1 [(0, (.t 46))], none⟩,
                          ⟨(some 48), .append 1 24 (.t 42) (.t 47), none⟩,
                          ⟨(some 49), .faddr 1 (.t 4), none⟩,
                          ⟨none, .store 1 (.t 49) (.t 48), none⟩])))))
                    (.reg none [⟨(some 50), .bin .add (.t 23) (.c (.int .i64 1)), none⟩,
                      ⟨(some 23), .mv (.t 50), none⟩])))))))))
            (.reg none [⟨(some 51), .bin .add (.t 19) (.c (.int .i64 1)), none⟩,
              ⟨(some 19), .mv (.t 51), none⟩])))))))
      (.seq
       (.reg none [⟨(some 52), .load (some 2) (.t 4), none⟩,
         ⟨none, .store 2 (.t 2) (.t 52), none⟩,
         ⟨(some 3), .mv (.c (.int .i64 0)), none⟩])
       .ret))))) }
theorem f18P : prepF C Try.f18 = some f18A := by kernel_rfl

/-- congou/arrays.Bound -/
def f19A : AFunc :=
{ nargs := 3, res := [.t 6, .t 7], body :=
  (.seq
   (.reg none [⟨(some 6), .mv (.c (.int .i64 0)), none⟩,
     ⟨(some 7), .mv (.c (.int .i64 0)), none⟩])
   (.seq
    (.seq
     (.reg none [⟨(some 8), .mv (.t 0), none⟩,
       ⟨(some 9), .bin .lss (.t 8) (.c (.int .i64 2)), none⟩,
       ⟨(some 10), .mv (.t 9), none⟩,
       ⟨(some 11), .mv (.t 0), some (10, false)⟩,
       ⟨(some 12), .bin .gtr (.t 11) (.c (.int .i64 4)), some (10, false)⟩,
       ⟨(some 13), .pick (.t 10) (.c (.b true)) (.t 12), none⟩,
       ⟨(some 14), .mv (.t 13), none⟩,
       ⟨(some 15), .mv (.t 2), some (14, false)⟩,
       ⟨(some 16), .bin .lss (.t 15) (.c (.int .i64 1)), some (14, false)⟩,
       ⟨(some 17), .pick (.t 14) (.c (.b true)) (.t 16), none⟩,
       ⟨(some 18), .mv (.t 17), none⟩,
       ⟨(some 19), .mv (.t 2), some (18, false)⟩,
       ⟨(some 20), .bin .gtr (.t 19) (.c (.int .i64 3)), some (18, false)⟩,
       ⟨(some 21), .pick (.t 18) (.c (.b true)) (.t 20), none⟩,
       ⟨(some 22), .mv (.t 21), none⟩,
       ⟨(some 23), .mv (.t 1), some (22, false)⟩,
       ⟨(some 24), .mv (.t 2), some (22, false)⟩,
       ⟨(some 25), .bin .lss (.t 23) (.t 24), some (22, false)⟩,
       ⟨(some 26), .pick (.t 22) (.c (.b true)) (.t 25), none⟩,
       ⟨(some 27), .mv (.t 26), none⟩,
       ⟨(some 28), .mv (.t 1), some (27, false)⟩,
       ⟨(some 29), .bin .gtr (.t 28) (.c (.int .i64 8)), some (27, false)⟩,
       ⟨(some 30), .pick (.t 27) (.c (.b true)) (.t 29), none⟩])
     (.cond (.t 30)
      (.seq
       (.reg none [⟨(some 6), .mv (.c (.int .i64 0)), none⟩,
         ⟨(some 7), .mv (.c (.int .i64 2)), none⟩])
       .ret)
      .skip))
    (.seq
     (.reg none [⟨(some 31), .mv (.t 0), none⟩,
       ⟨(some 32), .mv (.t 1), none⟩,
       ⟨(some 33), .mv (.t 0), none⟩,
       ⟨(some 34), .bin .sub (.t 33) (.c (.int .i64 1)), none⟩,
       ⟨(some 35), .bin .mul (.t 32) (.t 34), none⟩,
       ⟨(some 36), .bin .add (.c (.int .i64 1)) (.t 35), none⟩,
       ⟨(some 37), .mv (.t 0), none⟩,
       ⟨(some 38), .mv (.t 1), none⟩,
       ⟨(some 39), .bin .sub (.t 38) (.c (.int .i64 1)), none⟩,
       ⟨(some 40), .mv (.t 0), none⟩,
       ⟨(some 41), .bin .sub (.t 40) (.c (.int .i64 1)), none⟩,
       ⟨(some 42), .bin .mul (.t 39) (.t 41), none⟩,
       ⟨(some 43), .bin .add (.c (.int .i64 1)) (.t 42), none⟩,
       ⟨(some 44), .bin .mul (.t 37) (.t 43), none⟩,
       ⟨(some 45), .build [(.int .i64 0), (.int .i64 0), (.int .i64 0)] [(0, 1, (.t 31)), (1, 1, (.t 36)), (2, 1, (.t 44))], none⟩,
       ⟨(some 46), .mv (.t 2), none⟩,
       ⟨(some 47), .bin .sub (.t 46) (.c (.int .i64 1)), none⟩,
       ⟨(some 48), .index 3 1 false (.t 45) (.t 47), none⟩,
       ⟨(some 6), .mv (.t 48), none⟩,
       ⟨(some 7), .mv (.c (.int .i64 0)), none⟩])
     .ret))) }
theorem f19P : prepF C Try.f19 = some f19A := by kernel_rfl

/-- congou/congouref09.Same -/
def f20A : AFunc :=
{ nargs := 2, res := [.t 4], body :=
  (.seq
   (.reg none [⟨(some 2), .box (.t 0), none⟩,
     ⟨(some 3), .box (.t 1), none⟩,
     ⟨(some 4), .mv (.c (.b false)), none⟩])
   (.seq
    (.seq
     (.reg none [⟨(some 9), .faddr 0 (.t 2), none⟩,
       ⟨(some 10), .load none (.t 9), none⟩,
       ⟨(some 11), .faddr 0 (.t 3), none⟩,
       ⟨(some 12), .load none (.t 11), none⟩,
       ⟨(some 13), .bin .neq (.t 10) (.t 12), none⟩,
       ⟨(some 14), .mv (.t 13), none⟩,
       ⟨(some 15), .faddr 1 (.t 2), some (14, false)⟩,
       ⟨(some 16), .load none (.t 15), some (14, false)⟩,
       ⟨(some 17), .len (.t 16), some (14, false)⟩,
       ⟨(some 18), .faddr 1 (.t 3), some (14, false)⟩,
       ⟨(some 19), .load none (.t 18), some (14, false)⟩,
       ⟨(some 20), .len (.t 19), some (14, false)⟩,
       ⟨(some 21), .bin .neq (.t 17) (.t 20), some (14, false)⟩,
       ⟨(some 22), .pick (.t 14) (.c (.b true)) (.t 21), none⟩])
     (.cond (.t 22)
      (.seq
       (.reg none [⟨(some 4), .mv (.c (.b false)), none⟩])
       .ret)
      .skip))
    (.seq
     (.seq
      (.reg none [⟨(some 23), .faddr 1 (.t 2), none⟩,
        ⟨(some 24), .load none (.t 23), none⟩,
        ⟨(some 25), .len (.t 24), none⟩,
        ⟨(some 26), .mv (.c (.int .i64 0)), none⟩])
      (.block 0
       (.loop
        (.seq
         (.reg none [⟨(some 27), .bin .lss (.t 26) (.t 25), none⟩])
         (.seq
          (.cond (.t 27)
           .skip
           (.exit 0))
          (.seq
           (.block 1
            (.seq
             (.reg none [⟨(some 28), .mv (.t 26), none⟩,
               ⟨(some 29), .iaddr 1 (.t 24) (.t 26), none⟩,
               ⟨(some 30), .load none (.t 29), none⟩,
               ⟨(some 5), .mv (.t 28), none⟩,
               ⟨(some 6), .mv (.t 30), none⟩])
             (.seq
              (.seq
               (.reg none [⟨(some 31), .mv (.t 6), none⟩,
                 ⟨(some 32), .len (.t 31), none⟩,
                 ⟨(some 33), .faddr 1 (.t 3), none⟩,
                 ⟨(some 34), .load none (.t 33), none⟩,
                 ⟨(some 35), .mv (.t 5), none⟩,
                 ⟨(some 36), .iaddr 1 (.t 34) (.t 35), none⟩,
                 ⟨(some 37), .load none (.t 36), none⟩,
                 ⟨(some 38), .len (.t 37), none⟩,
                 ⟨(some 39), .bin .neq (.t 32) (.t 38), none⟩])
               (.cond (.t 39)
                (.seq
                 (.reg none [⟨(some 4), .mv (.c (.b false)), none⟩])
                 .ret)
                .skip))
              (.seq
               (.reg none [⟨(some 40), .mv (.t 6), none⟩,
                 ⟨(some 41), .len (.t 40), none⟩,
                 ⟨(some 42), .mv (.c (.int .i64 0)), none⟩])
               (.block 2
                (.loop
                 (.seq
                  (.reg none [⟨(some 43), .bin .lss (.t 42) (.t 41), none⟩])
                  (.seq
                   (.cond (.t 43)
                    .skip
                    (.exit 2))
                   (.seq
                    (.block 3
                     (.seq
                      (.reg none [⟨(some 44), .mv (.t 42), none⟩,
                        ⟨(some 45), .iaddr 1 (.t 40) (.t 42), none⟩,
                        ⟨(some 46), .load none (.t 45), none⟩,
                        ⟨(some 7), .mv (.t 44), none⟩,
                        ⟨(some 8), .mv (.t 46), none⟩])
                      (.seq
                       (.reg none [⟨(some 47), .mv (.t 8), none⟩,
                         ⟨(some 48), .faddr 1 (.t 3), none⟩,
                         ⟨(some 49), .load none (.t 48), none⟩,
                         ⟨(some 50), .mv (.t 5), none⟩,
                         ⟨(some 51), .iaddr 1 (.t 49) (.t 50), none⟩,
                         ⟨(some 52), .load none (.t 51), none⟩,
                         ⟨(some 53), .mv (.t 7), none⟩,
                         ⟨(some 54), .iaddr 1 (.t 52) (.t 53), none⟩,
                         ⟨(some 55), .load none (.t 54), none⟩,
                         ⟨(some 56), .bin .neq (.t 47) (.t 55), none⟩])
                       (.cond (.t 56)
                        (.seq
                         (.reg none [⟨(some 4), .mv (.c (.b false)), none⟩])
                         .ret)
                        .skip))))
                    (.reg none [⟨(some 57), .bin .add (.t 42) (.c (.int .i64 1)), none⟩,
                      ⟨(some 42), .mv (.t 57), none⟩]))))))))))
           (.reg none [⟨(some 58), .bin .add (.t 26) (.c (.int .i64 1)), none⟩,
             ⟨(some 26), .mv (.t 58), none⟩])))))))
     (.seq
      (.reg none [⟨(some 4), .mv (.c (.b true)), none⟩])
      .ret)))) }
theorem f20P : prepF C Try.f20 = some f20A := by kernel_rfl

/-- congou/congoulaw09.own -/
def f21A : AFunc :=
{ nargs := 1, res := [.c 2 (some 2)], body :=
  (.seq
   (.reg none [⟨(some 1), .box (.t 0), none⟩,
     ⟨(some 2), .alloc [(.int .i64 0), .nils], none⟩])
   (.seq
    (.reg none [⟨(some 3), .faddr 0 (.t 1), none⟩,
      ⟨(some 4), .load none (.t 3), none⟩,
      ⟨(some 5), .faddr 1 (.t 1), none⟩,
      ⟨(some 6), .load none (.t 5), none⟩,
      ⟨(some 7), .build [(.int .i64 0), .nils] [(0, 1, (.t 4)), (1, 1, (.t 6))], none⟩,
      ⟨none, .store 2 (.t 2) (.t 7), none⟩])
    .ret)) }
theorem f21P : prepF C Try.f21 = some f21A := by kernel_rfl

/-- congou/congouref09.Lines -/
def f22A : AFunc :=
{ nargs := 1, res := [.c 2 (some 2)], body :=
  (.seq
   (.reg none [⟨(some 2), .alloc [(.int .i64 0), .nils], none⟩])
   (.seq
    (.reg none [⟨(some 8), .mv (.t 0), none⟩,
      ⟨(some 9), .build [(.int .i64 0), .nils] [(0, 1, (.t 8))], none⟩,
      ⟨(some 3), .alloc [(.int .i64 0), .nils], none⟩,
      ⟨none, .store 2 (.t 3) (.t 9), none⟩])
    (.seq
     (.seq
      (.reg none [⟨(some 10), .mv (.t 0), none⟩,
        ⟨(some 11), .mv (.c (.int .i64 0)), none⟩])
      (.block 0
       (.loop
        (.seq
         (.reg none [⟨(some 12), .bin .lss (.t 11) (.t 10), none⟩])
         (.seq
          (.cond (.t 12)
           .skip
           (.exit 0))
          (.seq
           (.block 1
            (.seq
             (.reg none [⟨(some 13), .mv (.t 11), none⟩,
               ⟨(some 4), .mv (.t 13), none⟩])
             (.seq
              (.reg none [⟨(some 14), .mv (.t 0), none⟩,
                ⟨(some 15), .mv (.c (.int .i64 0)), none⟩])
              (.block 2
               (.loop
                (.seq
                 (.reg none [⟨(some 16), .bin .lss (.t 15) (.t 14), none⟩])
                 (.seq
                  (.cond (.t 16)
                   .skip
                   (.exit 2))
                  (.seq
                   (.block 3
                    (.seq
                     (.reg none [⟨(some 17), .mv (.t 15), none⟩,
                       ⟨(some 5), .mv (.t 17), none⟩])
                     (.seq
                      (.reg none [⟨(some 6), .mv (.c .nils), none⟩])
                      (.seq
                       (.seq
                        (.reg none [⟨(some 18), .mv (.t 0), none⟩,
                          ⟨(some 19), .mv (.c (.int .i64 0)), none⟩])
                        (.block 4
                         (.loop
                          (.seq
                           (.reg none [⟨(some 20), .bin .lss (.t 19) (.t 18), none⟩])
                           (.seq
                            (.cond (.t 20)
                             .skip
                             (.exit 4))
                            (.seq
                             (.block 5
                              (.seq
                               (.reg none [⟨(some 21), .mv (.t 19), none⟩,
                                 ⟨(some 7), .mv (.t 21), none⟩])
                               (.reg none [⟨(some 22), .mv (.t 6), none⟩,
                                 ⟨(some 23), .mv (.t 4), none⟩,
                                 ⟨(some 24), .mv (.t 7), none⟩,
                                 ⟨(some 25), .bin .mul (.t 23) (.t 24), none⟩,
                                 ⟨(some 26), .mv (.t 5), none⟩,
                                 ⟨(some 27), .bin .add (.t 25) (.t 26), none⟩,
                                 ⟨(some 28), .mv (.t 0), none⟩,
                                 ⟨(some 29), .bin .rem (.t 27) (.t 28), none⟩,
                                 ⟨(some 30), .bslice [(.int .i64 0)] 1 1 [(0, (.t 29))], none⟩,
                                 ⟨(some 31), .append 1 8 (.t 22) (.t 30), none⟩,
                                 ⟨(some 6), .mv (.t 31), none⟩])))
                             (.reg none [⟨(some 32), .bin .add (.t 19) (.c (.int .i64 1)), none⟩,
                               ⟨(some 19), .mv (.t 32), none⟩])))))))
                       (.reg (some [(1, 5)]) [⟨(some 33), .faddr 1 (.t 3), none⟩,
                         ⟨(some 34), .load none (.t 33), none⟩,
                         ⟨(some 35), .mv (.t 6), none⟩,
                         ⟨(some 36), .mv (.t 4), none⟩,
                         ⟨(some 37), .bslice [(.int .i64 0)] 1 1 [(0, (.t 36))], none⟩,
                         ⟨(some 38), .append 1 8 (.t 35) (.t 37), none⟩,
                         ⟨(some 39), .bslice [.nils] 1 1 [(0, (.t 38))], none⟩,
                         ⟨(some 40), .append 1 24 (.t 34) (.t 39), none⟩,
                         ⟨(some 41), .faddr 1 (.t 3), none⟩,
                         ⟨none, .store 1 (.t 41) (.t 40), none⟩])))))
                   (.reg none [⟨(some 42), .bin .add (.t 15) (.c (.int .i64 1)), none⟩,
                     ⟨(some 15), .mv (.t 42), none⟩])))))))))
           (.reg none [⟨(some 43), .bin .add (.t 11) (.c (.int .i64 1)), none⟩,
             ⟨(some 11), .mv (.t 43), none⟩])))))))
     (.seq
      (.reg none [⟨(some 44), .load (some 2) (.t 3), none⟩,
        ⟨none, .store 2 (.t 2) (.t 44), none⟩])
      .ret)))) }
theorem f22P : prepF C Try.f22 = some f22A := by kernel_rfl

/-- congou/congoulaw09.nothing -/
def f23A : AFunc :=
{ nargs := 1, res := [.t 2], body :=
  (.seq
   (.reg none [⟨(some 1), .box (.t 0), none⟩,
     ⟨(some 2), .mv (.c (.b false)), none⟩])
   (.seq
    (.reg none [⟨(some 3), .faddr 0 (.t 1), none⟩,
      ⟨(some 4), .load none (.t 3), none⟩,
      ⟨(some 5), .bin .eql (.t 4) (.c (.int .i64 0)), none⟩,
      ⟨(some 6), .mv (.t 5), none⟩,
      ⟨(some 7), .faddr 1 (.t 1), some (6, true)⟩,
      ⟨(some 8), .load none (.t 7), some (6, true)⟩,
      ⟨(some 9), .len (.t 8), some (6, true)⟩,
      ⟨(some 10), .bin .eql (.t 9) (.c (.int .i64 0)), some (6, true)⟩,
      ⟨(some 11), .pick (.t 6) (.t 10) (.c (.b false)), none⟩,
      ⟨(some 2), .mv (.t 11), none⟩])
    .ret)) }
theorem f23P : prepF C Try.f23 = some f23A := by kernel_rfl

/-- congou/congouref09.Wide -/
def f24A : AFunc :=
{ nargs := 3, res := [.t 6], body :=
  (.seq
   (.reg none [⟨(some 6), .mv (.c (.b false)), none⟩])
   (.seq
    (.reg none [⟨(some 7), .mv (.t 0), none⟩,
      ⟨(some 8), .bin .geq (.t 7) (.c (.int .i64 2)), none⟩,
      ⟨(some 9), .mv (.t 8), none⟩,
      ⟨(some 10), .mv (.t 0), some (9, true)⟩,
      ⟨(some 11), .bin .leq (.t 10) (.c (.int .i64 4)), some (9, true)⟩,
      ⟨(some 12), .pick (.t 9) (.t 11) (.c (.b false)), none⟩,
      ⟨(some 13), .mv (.t 12), none⟩,
      ⟨(some 14), .mv (.t 2), some (13, true)⟩,
      ⟨(some 15), .bin .geq (.t 14) (.c (.int .i64 1)), some (13, true)⟩,
      ⟨(some 16), .pick (.t 13) (.t 15) (.c (.b false)), none⟩,
      ⟨(some 17), .mv (.t 16), none⟩,
      ⟨(some 18), .mv (.t 2), some (17, true)⟩,
      ⟨(some 19), .bin .leq (.t 18) (.c (.int .i64 3)), some (17, true)⟩,
      ⟨(some 20), .pick (.t 17) (.t 19) (.c (.b false)), none⟩,
      ⟨(some 21), .mv (.t 20), none⟩,
      ⟨(some 22), .mv (.t 1), some (21, true)⟩,
      ⟨(some 23), .mv (.t 2), some (21, true)⟩,
      ⟨(some 24), .bin .geq (.t 22) (.t 23), some (21, true)⟩,
      ⟨(some 25), .pick (.t 21) (.t 24) (.c (.b false)), none⟩,
      ⟨(some 26), .mv (.t 25), none⟩,
      ⟨(some 27), .mv (.t 1), some (26, true)⟩,
      ⟨(some 28), .bin .leq (.t 27) (.c (.int .i64 8)), some (26, true)⟩,
      ⟨(some 29), .pick (.t 26) (.t 28) (.c (.b false)), none⟩,
      ⟨(some 6), .mv (.t 29), none⟩])
    .ret)) }
theorem f24P : prepF C Try.f24 = some f24A := by kernel_rfl

/-- congou/congoulaw09.awake -/
def f25A : AFunc :=
{ nargs := 0, res := [.t 0], body :=
  (.seq
   (.reg none [⟨(some 0), .mv (.c (.b false)), none⟩])
   (.seq
    (.reg none [⟨(some 4), .bslice [(.int .i64 0)] 3 1 [(0, (.c (.int .i64 0))), (1, (.c (.int .i64 0))), (2, (.c (.int .i64 1)))], none⟩,
      ⟨(some 5), .bslice [(.int .i64 0)] 3 1 [(0, (.c (.int .i64 1))), (1, (.c (.int .i64 0))), (2, (.c (.int .i64 0)))], none⟩,
      ⟨(some 6), .bslice [.nils] 2 1 [(0, (.t 4)), (1, (.t 5))], none⟩,
      ⟨(some 7), .build [(.int .i64 0), .nils] [(0, 1, (.c (.int .i64 2))), (1, 1, (.t 6))], none⟩,
      ⟨(some 8), .call 47 [(.t 7)], none⟩,
      ⟨(some 3), .mv (.t 8), none⟩,
      ⟨(some 9), .extr (.t 3) 0, none⟩,
      ⟨(some 10), .extr (.t 3) 1, none⟩,
      ⟨(some 1), .mv (.t 9), none⟩,
      ⟨(some 2), .mv (.t 10), none⟩])
    (.seq
     (.reg none [⟨(some 11), .mv (.t 1), none⟩,
       ⟨(some 12), .bin .eql (.t 11) (.c (.int .i64 2)), none⟩,
       ⟨(some 13), .mv (.t 12), none⟩,
       ⟨(some 14), .mv (.t 2), some (13, true)⟩,
       ⟨(some 15), .bin .eql (.t 14) (.c (.int .i64 0)), some (13, true)⟩,
       ⟨(some 16), .pick (.t 13) (.t 15) (.c (.b false)), none⟩,
       ⟨(some 0), .mv (.t 16), none⟩])
     .ret))) }
theorem f25P : prepF C Try.f25 = some f25A := by kernel_rfl

/-- congou/congouref09.Bound -/
def f26A : AFunc :=
{ nargs := 3, res := [.t 6], body :=
  (.seq
   (.reg none [⟨(some 6), .mv (.c (.int .i64 0)), none⟩])
   (.seq
    (.seq
     (.reg none [⟨(some 7), .mv (.t 2), none⟩])
     (.block 0
      (.seq
       (.reg none [⟨(some 9), .bin .eql (.t 7) (.c (.int .i64 1)), none⟩,
         ⟨(some 8), .mv (.t 9), none⟩])
       (.cond (.t 8)
        (.seq
         (.reg none [⟨(some 10), .mv (.t 0), none⟩,
           ⟨(some 6), .mv (.t 10), none⟩])
         .ret)
        (.seq
         (.reg none [⟨(some 12), .bin .eql (.t 7) (.c (.int .i64 2)), none⟩,
           ⟨(some 11), .mv (.t 12), none⟩])
         (.cond (.t 11)
          (.seq
           (.reg none [⟨(some 13), .mv (.t 1), none⟩,
             ⟨(some 14), .mv (.t 0), none⟩,
             ⟨(some 15), .bin .sub (.t 14) (.c (.int .i64 1)), none⟩,
             ⟨(some 16), .bin .mul (.t 13) (.t 15), none⟩,
             ⟨(some 17), .bin .add (.c (.int .i64 1)) (.t 16), none⟩,
             ⟨(some 6), .mv (.t 17), none⟩])
           .ret)
          .skip))))))
    (.seq
     (.reg none [⟨(some 18), .mv (.t 0), none⟩,
       ⟨(some 19), .mv (.t 1), none⟩,
       ⟨(some 20), .bin .sub (.t 19) (.c (.int .i64 1)), none⟩,
       ⟨(some 21), .mv (.t 0), none⟩,
       ⟨(some 22), .bin .sub (.t 21) (.c (.int .i64 1)), none⟩,
       ⟨(some 23), .bin .mul (.t 20) (.t 22), none⟩,
       ⟨(some 24), .bin .add (.c (.int .i64 1)) (.t 23), none⟩,
       ⟨(some 25), .bin .mul (.t 18) (.t 24), none⟩,
       ⟨(some 6), .mv (.t 25), none⟩])
     .ret))) }
theorem f26P : prepF C Try.f26 = some f26A := by kernel_rfl

/-- congou/arrays.Least -/
def f27A : AFunc :=
{ nargs := 1, res := [.t 2, .t 3], body :=
  (.seq
   (.reg none [⟨(some 2), .mv (.c (.int .i64 0)), none⟩,
     ⟨(some 3), .mv (.c (.int .i64 0)), none⟩])
   (.seq
    (.seq
     (.reg none [⟨(some 4), .mv (.t 0), none⟩,
       ⟨(some 5), .bin .lss (.t 4) (.c (.int .i64 2)), none⟩,
       ⟨(some 6), .mv (.t 5), none⟩,
       ⟨(some 7), .mv (.t 0), some (6, false)⟩,
       ⟨(some 8), .bin .gtr (.t 7) (.c (.int .i64 35)), some (6, false)⟩,
       ⟨(some 9), .pick (.t 6) (.c (.b true)) (.t 8), none⟩])
     (.cond (.t 9)
      (.seq
       (.reg none [⟨(some 2), .mv (.c (.int .i64 0)), none⟩,
         ⟨(some 3), .mv (.c (.int .i64 2)), none⟩])
       .ret)
      .skip))
    (.seq
     (.reg none [⟨(some 10), .mv (.t 0), none⟩,
       ⟨(some 11), .call 71 [(.t 10)], none⟩,
       ⟨(some 2), .mv (.t 11), none⟩,
       ⟨(some 3), .mv (.c (.int .i64 0)), none⟩])
     .ret))) }
theorem f27P : prepF C Try.f27 = some f27A := by kernel_rfl

/-- congou/arrays.Make -/
def f28A : AFunc :=
{ nargs := 1, res := [.c 2 (some 2), .t 3], body :=
  (.seq
   (.reg none [⟨(some 1), .box (.t 0), none⟩,
     ⟨(some 2), .alloc [(.int .i64 0), .nils], none⟩,
     ⟨(some 3), .mv (.c (.int .i64 0)), none⟩])
   (.seq
    (.seq
     (.reg none [⟨(some 11), .load none (.t 1), none⟩,
       ⟨(some 12), .bin .lss (.t 11) (.c (.int .i64 2)), none⟩,
       ⟨(some 13), .mv (.t 12), none⟩,
       ⟨(some 14), .load none (.t 1), some (13, false)⟩,
       ⟨(some 15), .bin .gtr (.t 14) (.c (.int .i64 8)), some (13, false)⟩,
       ⟨(some 16), .pick (.t 13) (.c (.b true)) (.t 15), none⟩])
     (.cond (.t 16)
      (.seq
       (.reg none [⟨(some 17), .build [(.int .i64 0), .nils] [], none⟩,
         ⟨none, .store 2 (.t 2) (.t 17), none⟩,
         ⟨(some 3), .mv (.c (.int .i64 2)), none⟩])
       .ret)
      .skip))
    (.seq
     (.reg none [⟨(some 18), .load none (.t 1), none⟩,
       ⟨(some 19), .call 71 [(.t 18)], none⟩,
       ⟨(some 4), .mv (.t 19), none⟩])
     (.seq
      (.reg none [⟨(some 20), .mv (.t 4), none⟩,
        ⟨(some 21), .mkslice 1 24 [.nils] (.t 20), none⟩,
        ⟨(some 5), .alloc [.nils], none⟩,
        ⟨none, .store 1 (.t 5) (.t 21), none⟩])
      (.seq
       (.seq
        (.reg none [⟨(some 22), .load none (.t 5), none⟩,
          ⟨(some 23), .len (.t 22), none⟩,
          ⟨(some 24), .mv (.c (.int .i64 0)), none⟩])
        (.block 0
         (.loop
          (.seq
           (.reg none [⟨(some 25), .bin .lss (.t 24) (.t 23), none⟩])
           (.seq
            (.cond (.t 25)
             .skip
             (.exit 0))
            (.seq
             (.block 1
              (.seq
               (.reg none [⟨(some 26), .mv (.t 24), none⟩,
                 ⟨(some 6), .mv (.t 26), none⟩])
               (.reg (some []) [⟨(some 27), .load none (.t 5), none⟩,
                 ⟨(some 28), .mv (.t 6), none⟩,
                 ⟨(some 29), .load none (.t 1), none⟩,
                 ⟨(some 30), .mkslice 1 8 [(.int .i64 0)] (.t 29), none⟩,
                 ⟨(some 31), .iaddr 1 (.t 27) (.t 28), none⟩,
                 ⟨none, .store 1 (.t 31) (.t 30), none⟩])))
             (.reg none [⟨(some 32), .bin .add (.t 24) (.c (.int .i64 1)), none⟩,
               ⟨(some 24), .mv (.t 32), none⟩])))))))
       (.seq
        (.reg none [⟨(some 7), .alloc [(.int .i64 0)], none⟩,
          ⟨none, .store 1 (.t 7) (.c (.int .i64 0)), none⟩])
        (.seq
         (.seq
          (.reg none [⟨(some 33), .mv (.t 4), none⟩,
            ⟨(some 34), .mv (.t 4), none⟩,
            ⟨(some 35), .bin .quo (.t 34) (.c (.int .i64 2)), none⟩,
            ⟨(some 36), .bin .sub (.t 33) (.t 35), none⟩,
            ⟨(some 37), .mv (.t 4), none⟩,
            ⟨(some 38), .bin .sub (.t 37) (.c (.int .i64 1)), none⟩,
            ⟨(some 39), .call 72 [(.t 36), (.t 38), (.c (.b true))], none⟩])
          (.block 2
           (.rangeF 62 (.t 39) [40]
            (.reg none [⟨(some 8), .mv (.t 40), none⟩])
            (.block 3
             (.seq
              (.seq
               (.reg none [⟨(some 41), .load none (.t 7), none⟩,
                 ⟨(some 42), .load none (.t 1), none⟩,
                 ⟨(some 43), .bin .eql (.t 41) (.t 42), none⟩])
               (.cond (.t 43)
                (.exit 2)
                .skip))
              (.seq
               (.seq
                (.reg none [⟨(some 44), .mv (.t 8), none⟩,
                  ⟨(some 45), .len (.t 44), none⟩,
                  ⟨(some 46), .mv (.c (.int .i64 0)), none⟩])
                (.block 4
                 (.loop
                  (.seq
                   (.reg none [⟨(some 47), .bin .lss (.t 46) (.t 45), none⟩])
                   (.seq
                    (.cond (.t 47)
                     .skip
                     (.exit 4))
                    (.seq
                     (.block 5
                      (.seq
                       (.reg none [⟨(some 48), .iaddr 1 (.t 44) (.t 46), none⟩,
                         ⟨(some 49), .load none (.t 48), none⟩,
                         ⟨(some 10), .mv (.t 49), none⟩])
                       (.reg (some []) [⟨(some 50), .load none (.t 5), none⟩,
                         ⟨(some 51), .mv (.t 10), none⟩,
                         ⟨(some 52), .bin .add (.t 51) (.c (.int .i64 1)), none⟩,
                         ⟨(some 53), .iaddr 1 (.t 50) (.t 52), none⟩,
                         ⟨(some 54), .load none (.t 53), none⟩,
                         ⟨(some 55), .load none (.t 7), none⟩,
                         ⟨(some 56), .iaddr 1 (.t 54) (.t 55), none⟩,
                         ⟨none, .store 1 (.t 56) (.c (.int .i64 1)), none⟩])))
                     (.reg none [⟨(some 57), .bin .add (.t 46) (.c (.int .i64 1)), none⟩,
                       ⟨(some 46), .mv (.t 57), none⟩])))))))
               (.reg none [⟨(some 58), .load none (.t 7), none⟩,
                 ⟨(some 59), .bin .add (.t 58) (.c (.int .i64 1)), none⟩,
                 ⟨none, .store 1 (.t 7) (.t 59), none⟩])))))))
         (.seq
          (.reg none [⟨(some 60), .load none (.t 5), none⟩,
            ⟨(some 61), .build [(.int .i64 0), .nils] [(0, 1, (.c (.int .i64 2))), (1, 1, (.t 60))], none⟩,
            ⟨none, .store 2 (.t 2) (.t 61), none⟩,
            ⟨(some 3), .mv (.c (.int .i64 0)), none⟩])
          .ret)))))))) }
theorem f28P : prepF C Try.f28 = some f28A := by kernel_rfl

/-- congou/congouref09.Least -/
def f29A : AFunc :=
{ nargs := 1, res := [.t 2], body :=
  (.seq
   (.reg none [⟨(some 2), .mv (.c (.int .i64 0)), none⟩])
   (.seq
    (.reg none [⟨(some 3), .mv (.c (.int .i64 2)), none⟩])
    (.seq
     (.block 0
      (.loop
       (.seq
        (.seq
         (.reg none [⟨(some 4), .mv (.t 3), none⟩,
           ⟨(some 5), .bin .sub (.t 4) (.c (.int .i64 1)), none⟩,
           ⟨(some 6), .mv (.t 3), none⟩,
           ⟨(some 7), .bin .quo (.t 6) (.c (.int .i64 2)), none⟩,
           ⟨(some 8), .bin .sub (.t 7) (.c (.int .i64 1)), none⟩,
           ⟨(some 9), .call 73 [(.t 5), (.t 8), (.c (.int .i64 0))], none⟩,
           ⟨(some 10), .len (.t 9), none⟩,
           ⟨(some 11), .mv (.t 0), none⟩,
           ⟨(some 12), .bin .lss (.t 10) (.t 11), none⟩])
         (.cond (.t 12)
          .skip
          (.exit 0)))
        (.block 1
         (.reg none [⟨(some 13), .mv (.t 3), none⟩,
           ⟨(some 14), .bin .add (.t 13) (.c (.int .i64 1)), none⟩,
           ⟨(some 3), .mv (.t 14), none⟩])))))
     (.seq
      (.reg none [⟨(some 15), .mv (.t 3), none⟩,
        ⟨(some 2), .mv (.t 15), none⟩])
      .ret)))) }
theorem f29P : prepF C Try.f29 = some f29A := by kernel_rfl

/-- congou/congouref09.Make -/
def f30A : AFunc :=
{ nargs := 1, res := [.c 2 (some 2)], body :=
  (.seq
   (.reg none [⟨(some 2), .alloc [(.int .i64 0), .nils], none⟩])
   (.seq
    (.reg none [⟨(some 9), .mv (.t 0), none⟩,
      ⟨(some 10), .call 29 [(.t 9)], none⟩,
      ⟨(some 3), .mv (.t 10), none⟩])
    (.seq
     (.reg none [⟨(some 11), .build [(.int .i64 0), .nils] [(0, 1, (.c (.int .i64 2)))], none⟩,
       ⟨(some 4), .alloc [(.int .i64 0), .nils], none⟩,
       ⟨none, .store 2 (.t 4) (.t 11), none⟩])
     (.seq
      (.seq
       (.reg none [⟨(some 12), .mv (.t 3), none⟩,
         ⟨(some 13), .mv (.c (.int .i64 0)), none⟩])
       (.block 0
        (.loop
         (.seq
          (.reg none [⟨(some 14), .bin .lss (.t 13) (.t 12), none⟩])
          (.seq
           (.cond (.t 14)
            .skip
            (.exit 0))
           (.seq
            (.block 1
             (.reg (some []) [⟨(some 15), .faddr 1 (.t 4), none⟩,
               ⟨(some 16), .load none (.t 15), none⟩,
               ⟨(some 17), .mv (.t 0), none⟩,
               ⟨(some 18), .mkslice 1 8 [(.int .i64 0)] (.t 17), none⟩,
               ⟨(some 19), .bslice [.nils] 1 1 [(0, (.t 18))], none⟩,
               ⟨(some 20), .append 1 24 (.t 16) (.t 19), none⟩,
               ⟨(some 21), .faddr 1 (.t 4), none⟩,
               ⟨none, .store 1 (.t 21) (.t 20), none⟩]))
            (.reg none [⟨(some 22), .bin .add (.t 13) (.c (.int .i64 1)), none⟩,
              ⟨(some 13), .mv (.t 22), none⟩])))))))
      (.seq
       (.seq
        (.reg none [⟨(some 23), .mv (.t 3), none⟩,
          ⟨(some 24), .mv (.t 3), none⟩,
          ⟨(some 25), .mv (.t 3), none⟩,
          ⟨(some 26), .bin .quo (.t 25) (.c (.int .i64 2)), none⟩,
          ⟨(some 27), .bin .sub (.t 24) (.t 26), none⟩,
          ⟨(some 28), .call 73 [(.t 23), (.t 27), (.c (.int .i64 1))], none⟩,
          ⟨(some 29), .mv (.t 0), none⟩,
          ⟨(some 30), .slice 1 (.t 28) none (some (.t 29)) none, none⟩,
          ⟨(some 31), .len (.t 30), none⟩,
          ⟨(some 32), .mv (.c (.int .i64 0)), none⟩])
        (.block 2
         (.loop
          (.seq
           (.reg none [⟨(some 33), .bin .lss (.t 32) (.t 31), none⟩])
           (.seq
            (.cond (.t 33)
             .skip
             (.exit 2))
            (.seq
             (.block 3
              (.seq
               (.reg none [⟨(some 34), .mv (.t 32), none⟩,
                 ⟨(some 35), .iaddr 1 (.t 30) (.t 32), none⟩,
                 ⟨(some 36), .load none (.t 35), none⟩,
                 ⟨(some 5), .mv (.t 34), none⟩,
                 ⟨(some 6), .mv (.t 36), none⟩])
               (.seq
                (.reg none [⟨(some 37), .mv (.t 6), none⟩,
                  ⟨(some 38), .len (.t 37), none⟩,
                  ⟨(some 39), .mv (.c (.int .i64 0)), none⟩])
                (.block 4
                 (.loop
                  (.seq
                   (.reg none [⟨(some 40), .bin .lss (.t 39) (.t 38), none⟩])
                   (.seq
                    (.cond (.t 40)
                     .skip
                     (.exit 4))
                    (.seq
                     (.block 5
                      (.seq
                       (.reg none [⟨(some 41), .iaddr 1 (.t 37) (.t 39), none⟩,
                         ⟨(some 42), .load none (.t 41), none⟩,
                         ⟨(some 8), .mv (.t 42), none⟩])
                       (.reg none [⟨(some 43), .faddr 1 (.t 4), none⟩,
                         ⟨(some 44), .load none (.t 43), none⟩,
                         ⟨(some 45), .mv (.t 8), none⟩,
                         ⟨(some 46), .iaddr 1 (.t 44) (.t 45), none⟩,
                         ⟨(some 47), .load none (.t 46), none⟩,
                         ⟨(some 48), .mv (.t 5), none⟩,
                         ⟨(some 49), .iaddr 1 (.t 47) (.t 48), none⟩,
                         ⟨none, .store 1 (.t 49) (.c (.int .i64 1)), none⟩])))
                     (.reg none [⟨(some 50), .bin .add (.t 39) (.c (.int .i64 1)), none⟩,
                       ⟨(some 39), .mv (.t 50), none⟩])))))))))
             (.reg none [⟨(some 51), .bin .add (.t 32) (.c (.int .i64 1)), none⟩,
               ⟨(some 32), .mv (.t 51), none⟩])))))))
       (.seq
        (.reg none [⟨(some 52), .load (some 2) (.t 4), none⟩,
          ⟨none, .store 2 (.t 2) (.t 52), none⟩])
        .ret)))))) }
theorem f30P : prepF C Try.f30 = some f30A := by kernel_rfl

/-- congou/arrays.Both -/
def f31A : AFunc :=
{ nargs := 2, res := [.c 4 (some 2), .t 5], body :=
  (.seq
   (.reg none [⟨(some 2), .box (.t 0), none⟩,
     ⟨(some 3), .box (.t 1), none⟩,
     ⟨(some 4), .alloc [(.int .i64 0), .nils], none⟩,
     ⟨(some 5), .mv (.c (.int .i64 0)), none⟩])
   (.seq
    (.seq
     (.reg (some []) [⟨(some 7), .load (some 2) (.t 2), none⟩,
       ⟨(some 8), .call 74 [(.t 7)], none⟩,
       ⟨(some 9), .un .not (.t 8), none⟩,
       ⟨(some 10), .mv (.t 9), none⟩,
       ⟨(some 11), .load (some 2) (.t 3), some (10, false)⟩,
       ⟨(some 12), .call 74 [(.t 11)], some (10, false)⟩,
       ⟨(some 13), .un .not (.t 12), some (10, false)⟩,
       ⟨(some 14), .pick (.t 10) (.c (.b true)) (.t 13), none⟩,
       ⟨(some 15), .mv (.t 14), none⟩,
       ⟨(some 16), .faddr 0 (.t 2), some (15, false)⟩,
       ⟨(some 17), .load none (.t 16), some (15, false)⟩,
       ⟨(some 18), .faddr 0 (.t 3), some (15, false)⟩,
       ⟨(some 19), .load none (.t 18), some (15, false)⟩,
       ⟨(some 20), .bin .neq (.t 17) (.t 19), some (15, false)⟩,
       ⟨(some 21), .pick (.t 15) (.c (.b true)) (.t 20), none⟩,
       ⟨(some 22), .mv (.t 21), none⟩,
       ⟨(some 23), .load (some 2) (.t 2), some (22, false)⟩,
       ⟨(some 24), .call 75 [(.t 23)], some (22, false)⟩,
       ⟨(some 25), .load (some 2) (.t 3), some (22, false)⟩,
       ⟨(some 26), .call 75 [(.t 25)], some (22, false)⟩,
       ⟨(some 27), .bin .neq (.t 24) (.t 26), some (22, false)⟩,
       ⟨(some 28), .pick (.t 22) (.c (.b true)) (.t 27), none⟩])
     (.cond (.t 28)
      (.seq
       (.reg none [⟨(some 29), .build [(.int .i64 0), .nils] [], none⟩,
         ⟨none, .store 2 (.t 4) (.t 29), none⟩,
         ⟨(some 5), .mv (.c (.int .i64 2)), none⟩])
       .ret)
      .skip))
    (.seq
     (.reg (some []) [⟨(some 30), .faddr 0 (.t 2), none⟩,
       ⟨(some 31), .load none (.t 30), none⟩,
       ⟨(some 32), .faddr 1 (.t 2), none⟩,
       ⟨(some 33), .load none (.t 32), none⟩,
       ⟨(some 34), .faddr 1 (.t 3), none⟩,
       ⟨(some 35), .load none (.t 34), none⟩,
       ⟨(some 36), .bslice [.nils] 2 1 [(0, (.t 33)), (1, (.t 35))], none⟩,
       ⟨(some 37), .call 76 [(.t 36)], none⟩,
       ⟨(some 38), .build [(.int .i64 0), .nils] [(0, 1, (.t 31)), (1, 1, (.t 37))], none⟩,
       ⟨(some 6), .alloc [(.int .i64 0), .nils], none⟩,
       ⟨none, .store 2 (.t 6) (.t 38), none⟩])
     (.seq
      (.seq
       (.reg none [⟨(some 39), .faddr 1 (.t 6), none⟩,
         ⟨(some 40), .load none (.t 39), none⟩,
         ⟨(some 41), .len (.t 40), none⟩,
         ⟨(some 42), .bin .gtr (.t 41) (.c (.int .i64 16)), none⟩])
       (.cond (.t 42)
        (.seq
         (.reg none [⟨(some 43), .build [(.int .i64 0), .nils] [], none⟩,
           ⟨none, .store 2 (.t 4) (.t 43), none⟩,
           ⟨(some 5), .mv (.c (.int .i64 6)), none⟩])
         .ret)
        .skip))
      (.seq
       (.reg none [⟨(some 44), .load (some 2) (.t 6), none⟩,
         ⟨(some 45), .call 77 [(.t 44), (.c (.fn 78 [] []))], none⟩,
         ⟨none, .store 2 (.t 4) (.t 45), none⟩,
         ⟨(some 5), .mv (.c (.int .i64 0)), none⟩])
       .ret))))) }
theorem f31P : prepF C Try.f31 = some f31A := by kernel_rfl

/-- congou/congoulaw09.Of -/
def f32A : AFunc :=
{ nargs := 1, res := [.c 2 (some 2)], body :=
  (.seq
   (.reg none [⟨(some 1), .box (.t 0), none⟩,
     ⟨(some 2), .alloc [(.int .i64 0), .nils], none⟩])
   (.seq
    (.reg none [⟨(some 6), .faddr 0 (.t 1), none⟩,
      ⟨(some 7), .load none (.t 6), none⟩,
      ⟨(some 8), .build [(.int .i64 0), .nils] [(0, 1, (.t 7))], none⟩,
      ⟨(some 3), .alloc [(.int .i64 0), .nils], none⟩,
      ⟨none, .store 2 (.t 3) (.t 8), none⟩])
    (.seq
     (.seq
      (.reg none [⟨(some 9), .faddr 1 (.t 1), none⟩,
        ⟨(some 10), .load none (.t 9), none⟩,
        ⟨(some 11), .len (.t 10), none⟩,
        ⟨(some 12), .mv (.c (.int .i64 0)), none⟩])
      (.block 0
       (.loop
        (.seq
         (.reg none [⟨(some 13), .bin .lss (.t 12) (.t 11), none⟩])
         (.seq
          (.cond (.t 13)
           .skip
           (.exit 0))
          (.seq
           (.block 1
            (.seq
             (.reg none [⟨(some 14), .mv (.t 12), none⟩,
               ⟨(some 15), .iaddr 1 (.t 10) (.t 12), none⟩,
               ⟨(some 16), .load none (.t 15), none⟩,
               ⟨(some 4), .mv (.t 14), none⟩,
               ⟨(some 5), .mv (.t 16), none⟩])
             (.seq
              (.reg none [⟨(some 17), .mv (.t 4), none⟩,
                ⟨(some 18), .bin .lss (.t 17) (.c (.int .i64 19)), none⟩])
              (.cond (.t 18)
               (.reg (some []) [⟨(some 19), .faddr 1 (.t 3), none⟩,
                 ⟨(some 20), .load none (.t 19), none⟩,
                 ⟨(some 21), .mv (.t 5), none⟩,
                 ⟨(some 22), .call 35 [(.t 21)], none⟩,
                 ⟨(some 23), .bslice [.nils] 1 1 [(0, (.t 22))], none⟩,
                 ⟨(some 24), .append 1 24 (.t 20) (.t 23), none⟩,
                 ⟨(some 25), .faddr 1 (.t 3), none⟩,
                 ⟨none, .store 1 (.t 25) (.t 24), none⟩])
               .skip))))
           (.reg none [⟨(some 26), .bin .add (.t 12) (.c (.int .i64 1)), none⟩,
             ⟨(some 12), .mv (.t 26), none⟩])))))))
     (.seq
      (.reg none [⟨(some 27), .load (some 2) (.t 3), none⟩,
        ⟨none, .store 2 (.t 2) (.t 27), none⟩])
      .ret)))) }
theorem f32P : prepF C Try.f32 = some f32A := by kernel_rfl

/-- congou/arrays.Drop -/
def f33A : AFunc :=
{ nargs := 2, res := [.c 4 (some 2), .t 5], body :=
  (.seq
   (.reg none [⟨(some 2), .box (.t 0), none⟩,
     ⟨(some 3), .box (.t 1), none⟩,
     ⟨(some 4), .alloc [(.int .i64 0), .nils], none⟩,
     ⟨(some 5), .mv (.c (.int .i64 0)), none⟩])
   (.seq
    (.block 0
     (.seq
      (.reg (some []) [⟨(some 7), .load (some 2) (.t 2), none⟩,
        ⟨(some 8), .call 74 [(.t 7)], none⟩,
        ⟨(some 9), .un .not (.t 8), none⟩,
        ⟨(some 10), .mv (.t 9), none⟩,
        ⟨(some 11), .load none (.t 3), some (10, false)⟩,
        ⟨(some 12), .bin .lss (.t 11) (.c (.int .i64 0)), some (10, false)⟩,
        ⟨(some 13), .pick (.t 10) (.c (.b true)) (.t 12), none⟩,
        ⟨(some 14), .mv (.t 13), none⟩,
        ⟨(some 15), .load none (.t 3), some (14, false)⟩,
        ⟨(some 16), .load (some 2) (.t 2), some (14, false)⟩,
        ⟨(some 17), .call 75 [(.t 16)], some (14, false)⟩,
        ⟨(some 18), .bin .geq (.t 15) (.t 17), some (14, false)⟩,
        ⟨(some 19), .pick (.t 14) (.c (.b true)) (.t 18), none⟩,
        ⟨(some 6), .mv (.t 19), none⟩])
      (.cond (.t 6)
       (.seq
        (.reg none [⟨(some 20), .build [(.int .i64 0), .nils] [], none⟩,
          ⟨none, .store 2 (.t 4) (.t 20), none⟩,
          ⟨(some 5), .mv (.c (.int .i64 2)), none⟩])
        .ret)
       (.seq
        (.reg none [⟨(some 22), .load (some 2) (.t 2), none⟩,
          ⟨(some 23), .call 75 [(.t 22)], none⟩,
          ⟨(some 24), .bin .eql (.t 23) (.c (.int .i64 1)), none⟩,
          ⟨(some 21), .mv (.t 24), none⟩])
        (.cond (.t 21)
         (.seq
          (.reg none [⟨(some 25), .build [(.int .i64 0), .nils] [], none⟩,
            ⟨none, .store 2 (.t 4) (.t 25), none⟩,
            ⟨(some 5), .mv (.c (.int .i64 4)), none⟩])
          .ret)
         .skip)))))
    (.seq
     (.reg none [⟨(some 26), .load (some 2) (.t 2), none⟩,
       ⟨(some 27), .mkfn 79 [] [(.t 3)], none⟩,
       ⟨(some 28), .call 77 [(.t 26), (.t 27)], none⟩,
       ⟨none, .store 2 (.t 4) (.t 28), none⟩,
       ⟨(some 5), .mv (.c (.int .i64 0)), none⟩])
     .ret))) }
theorem f33P : prepF C Try.f33 = some f33A := by kernel_rfl

/-- congou/arrays.Rename -/
def f34A : AFunc :=
{ nargs := 3, res := [.c 6 (some 2), .t 7], body :=
  (.seq
   (.reg none [⟨(some 3), .box (.t 0), none⟩,
     ⟨(some 4), .box (.t 1), none⟩,
     ⟨(some 5), .box (.t 2), none⟩,
     ⟨(some 6), .alloc [(.int .i64 0), .nils], none⟩,
     ⟨(some 7), .mv (.c (.int .i64 0)), none⟩])
   (.seq
    (.seq
     (.reg (some []) [⟨(some 9), .load (some 2) (.t 3), none⟩,
       ⟨(some 10), .call 74 [(.t 9)], none⟩,
       ⟨(some 11), .un .not (.t 10), none⟩,
       ⟨(some 12), .mv (.t 11), none⟩,
       ⟨(some 13), .load none (.t 4), some (12, false)⟩,
       ⟨(some 14), .bin .lss (.t 13) (.c (.int .i64 0)), some (12, false)⟩,
       ⟨(some 15), .pick (.t 12) (.c (.b true)) (.t 14), none⟩,
       ⟨(some 16), .mv (.t 15), none⟩,
       ⟨(some 17), .load none (.t 4), some (16, false)⟩,
       ⟨(some 18), .load (some 2) (.t 3), some (16, false)⟩,
       ⟨(some 19), .call 75 [(.t 18)], some (16, false)⟩,
       ⟨(some 20), .bin .geq (.t 17) (.t 19), some (16, false)⟩,
       ⟨(some 21), .pick (.t 16) (.c (.b true)) (.t 20), none⟩,
       ⟨(some 22), .mv (.t 21), none⟩,
       ⟨(some 23), .load none (.t 5), some (22, false)⟩,
       ⟨(some 24), .len (.t 23), some (22, false)⟩,
       ⟨(some 25), .faddr 0 (.t 3), some (22, false)⟩,
       ⟨(some 26), .load none (.t 25), some (22, false)⟩,
       ⟨(some 27), .bin .neq (.t 24) (.t 26), some (22, false)⟩,
       ⟨(some 28), .pick (.t 22) (.c (.b true)) (.t 27), none⟩])
     (.cond (.t 28)
      (.seq
       (.reg none [⟨(some 29), .build [(.int .i64 0), .nils] [], none⟩,
         ⟨none, .store 2 (.t 6) (.t 29), none⟩,
         ⟨(some 7), .mv (.c (.int .i64 2)), none⟩])
       .ret)
      .skip))
    (.seq
     (.seq
      (.reg none [⟨(some 30), .load none (.t 5), none⟩,
        ⟨(some 31), .len (.t 30), none⟩,
        ⟨(some 32), .mv (.c (.int .i64 0)), none⟩])
      (.block 0
       (.loop
        (.seq
         (.reg none [⟨(some 33), .bin .lss (.t 32) (.t 31), none⟩])
         (.seq
          (.cond (.t 33)
           .skip
           (.exit 0))
          (.seq
           (.block 1
            (.seq
             (.reg none [⟨(some 34), .mv (.t 32), none⟩,
               ⟨(some 8), .mv (.t 34), none⟩])
             (.seq
              (.reg none [⟨(some 35), .load none (.t 5), none⟩,
                ⟨(some 36), .mv (.t 8), none⟩,
                ⟨(some 37), .call 62 [(.t 35), (.t 36)], none⟩,
                ⟨(some 38), .un .not (.t 37), none⟩])
              (.cond (.t 38)
               (.seq
                (.reg none [⟨(some 39), .build [(.int .i64 0), .nils] [], none⟩,
                  ⟨none, .store 2 (.t 6) (.t 39), none⟩,
                  ⟨(some 7), .mv (.c (.int .i64 2)), none⟩])
                .ret)
               .skip))))
           (.reg none [⟨(some 40), .bin .add (.t 32) (.c (.int .i64 1)), none⟩,
             ⟨(some 32), .mv (.t 40), none⟩])))))))
     (.seq
      (.reg none [⟨(some 41), .load (some 2) (.t 3), none⟩,
        ⟨(some 42), .mkfn 81 [] [(.t 5), (.t 4)], none⟩,
        ⟨(some 43), .call 77 [(.t 41), (.t 42)], none⟩,
        ⟨none, .store 2 (.t 6) (.t 43), none⟩,
        ⟨(some 7), .mv (.c (.int .i64 0)), none⟩])
      .ret)))) }
theorem f34P : prepF C Try.f34 = some f34A := by kernel_rfl

/-- congou/congoulaw09.list -/
def f35A : AFunc :=
{ nargs := 1, res := [.t 2], body :=
  (.seq
   (.reg none [⟨(some 2), .mv (.c .nils), none⟩])
   (.seq
    (.reg none [⟨(some 3), .mv (.t 0), none⟩,
      ⟨(some 4), .mv (.t 0), none⟩,
      ⟨(some 5), .len (.t 4), none⟩,
      ⟨(some 6), .mn [(.t 5), (.c (.int .i64 11))], none⟩,
      ⟨(some 7), .slice 1 (.t 3) none (some (.t 6)) none, none⟩,
      ⟨(some 8), .call 82 [(.t 7)], none⟩,
      ⟨(some 2), .mv (.t 8), none⟩])
    .ret)) }
theorem f35P : prepF C Try.f35 = some f35A := by kernel_rfl

/-- congou/congouref09.Alike -/
def f36A : AFunc :=
{ nargs := 2, res := [.t 4], body :=
  (.seq
   (.reg none [⟨(some 2), .box (.t 0), none⟩,
     ⟨(some 3), .box (.t 1), none⟩,
     ⟨(some 4), .mv (.c (.b false)), none⟩])
   (.seq
    (.reg (some []) [⟨(some 5), .load (some 2) (.t 2), none⟩,
      ⟨(some 6), .call 38 [(.t 5)], none⟩,
      ⟨(some 7), .mv (.t 6), none⟩,
      ⟨(some 8), .load (some 2) (.t 3), some (7, true)⟩,
      ⟨(some 9), .call 38 [(.t 8)], some (7, true)⟩,
      ⟨(some 10), .pick (.t 7) (.t 9) (.c (.b false)), none⟩,
      ⟨(some 11), .mv (.t 10), none⟩,
      ⟨(some 12), .faddr 0 (.t 2), some (11, true)⟩,
      ⟨(some 13), .load none (.t 12), some (11, true)⟩,
      ⟨(some 14), .faddr 0 (.t 3), some (11, true)⟩,
      ⟨(some 15), .load none (.t 14), some (11, true)⟩,
      ⟨(some 16), .bin .eql (.t 13) (.t 15), some (11, true)⟩,
      ⟨(some 17), .pick (.t 11) (.t 16) (.c (.b false)), none⟩,
      ⟨(some 18), .mv (.t 17), none⟩,
      ⟨(some 19), .load (some 2) (.t 2), some (18, true)⟩,
      ⟨(some 20), .call 39 [(.t 19)], some (18, true)⟩,
      ⟨(some 21), .load (some 2) (.t 3), some (18, true)⟩,
      ⟨(some 22), .call 39 [(.t 21)], some (18, true)⟩,
      ⟨(some 23), .bin .eql (.t 20) (.t 22), some (18, true)⟩,
      ⟨(some 24), .pick (.t 18) (.t 23) (.c (.b false)), none⟩,
      ⟨(some 4), .mv (.t 24), none⟩])
    .ret)) }
theorem f36P : prepF C Try.f36 = some f36A := by kernel_rfl

/-- congou/congouref09.Both -/
def f37A : AFunc :=
{ nargs := 2, res := [.c 4 (some 2), .t 5], body :=
  (.seq
   (.reg none [⟨(some 2), .box (.t 0), none⟩,
     ⟨(some 3), .box (.t 1), none⟩,
     ⟨(some 4), .alloc [(.int .i64 0), .nils], none⟩,
     ⟨(some 5), .mv (.c (.int .i64 0)), none⟩])
   (.seq
    (.seq
     (.reg none [⟨(some 6), .faddr 1 (.t 2), none⟩,
       ⟨(some 7), .load none (.t 6), none⟩,
       ⟨(some 8), .len (.t 7), none⟩,
       ⟨(some 9), .faddr 1 (.t 3), none⟩,
       ⟨(some 10), .load none (.t 9), none⟩,
       ⟨(some 11), .len (.t 10), none⟩,
       ⟨(some 12), .bin .add (.t 8) (.t 11), none⟩,
       ⟨(some 13), .bin .gtr (.t 12) (.c (.int .i64 16)), none⟩])
     (.cond (.t 13)
      (.seq
       (.reg none [⟨(some 14), .build [(.int .i64 0), .nils] [], none⟩,
         ⟨none, .store 2 (.t 4) (.t 14), none⟩,
         ⟨(some 5), .mv (.c (.int .i64 6)), none⟩])
       .ret)
      .skip))
    (.seq
     (.reg (some [(1, 8)]) [⟨(some 15), .faddr 0 (.t 2), none⟩,
       ⟨(some 16), .load none (.t 15), none⟩,
       ⟨(some 17), .faddr 1 (.t 2), none⟩,
       ⟨(some 18), .load none (.t 17), none⟩,
       ⟨(some 19), .call 83 [(.t 18)], none⟩,
       ⟨(some 20), .faddr 1 (.t 3), none⟩,
       ⟨(some 21), .load none (.t 20), none⟩,
       ⟨(some 22), .call 83 [(.t 21)], none⟩,
       ⟨(some 23), .append 1 24 (.t 19) (.t 22), none⟩,
       ⟨(some 24), .build [(.int .i64 0), .nils] [(0, 1, (.t 16)), (1, 1, (.t 23))], none⟩,
       ⟨none, .store 2 (.t 4) (.t 24), none⟩,
       ⟨(some 5), .mv (.c (.int .i64 0)), none⟩])
     .ret))) }
theorem f37P : prepF C Try.f37 = some f37A := by kernel_rfl

end Go.Proofs.Ytalaadcbpjnglaa
