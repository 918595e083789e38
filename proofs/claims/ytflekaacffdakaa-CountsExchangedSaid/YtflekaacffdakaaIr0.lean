/- The abstract forms of the functions of this seat, each checked against the translation. No condition. -/
import Derived.Test.YtflekaacffdakaaAm1
import Derived.Test.YtflekaacffdakaaProg
namespace Go.Proofs.Ytflekaacffdakaa
open Go Go.AM Go.Proofs

/-- the seat's program; the types whose comparison is taken; the functions that may write to what is older -/
def kd : Nat → Kd := fun f => if [68, 80, 100].contains f then .wrt else if [23].contains f then .closed else .ro
noncomputable def C : Cfg := { P := Try.prog, eqT := fun t => if t == 37 then some 2 else if t == 88 then some 3 else none, kd := kd }

/-- congou/congoulaw06.CountsSums -/
def f3A : AFunc :=
{ nargs := 1, res := [.t 2], body :=
  (.seq
   (.reg none [⟨(some 2), .mv (.c (.b false)), none⟩])
   (.seq
    (.reg none [⟨(some 11), .mv (.t 0), none⟩,
      ⟨(some 12), .call 20 [(.t 11)], none⟩,
      ⟨(some 13), .call 19 [(.t 12)], none⟩,
      ⟨(some 10), .mv (.t 13), none⟩,
      ⟨(some 14), .extr (.t 10) 0, none⟩,
      ⟨(some 15), .extr (.t 10) 1, none⟩,
      ⟨(some 16), .extr (.t 10) 2, none⟩,
      ⟨(some 3), .mv (.t 14), none⟩,
      ⟨(some 4), .mv (.t 15), none⟩,
      ⟨(some 5), .mv (.t 16), none⟩])
    (.seq
     (.reg none [⟨(some 18), .mv (.t 0), none⟩,
       ⟨(some 19), .call 20 [(.t 18)], none⟩,
       ⟨(some 20), .call 21 [(.t 19)], none⟩,
       ⟨(some 17), .mv (.t 20), none⟩,
       ⟨(some 21), .extr (.t 17) 0, none⟩,
       ⟨(some 22), .extr (.t 17) 1, none⟩,
       ⟨(some 6), .mv (.t 21), none⟩,
       ⟨(some 7), .mv (.t 22), none⟩])
     (.seq
      (.seq
       (.reg none [⟨(some 23), .mv (.t 0), none⟩,
         ⟨(some 24), .call 22 [(.t 23)], none⟩,
         ⟨(some 25), .un .not (.t 24), none⟩])
       (.cond (.t 25)
        (.seq
         (.reg none [⟨(some 26), .mv (.t 3), none⟩,
           ⟨(some 27), .len (.t 26), none⟩,
           ⟨(some 28), .mv (.t 4), none⟩,
           ⟨(some 29), .len (.t 28), none⟩,
           ⟨(some 30), .bin .add (.t 27) (.t 29), none⟩,
           ⟨(some 31), .mv (.t 6), none⟩,
           ⟨(some 32), .len (.t 31), none⟩,
           ⟨(some 33), .bin .add (.t 30) (.t 32), none⟩,
           ⟨(some 34), .bin .eql (.t 33) (.c (.int .i64 0)), none⟩,
           ⟨(some 35), .mv (.t 34), none⟩,
           ⟨(some 36), .mv (.t 5), some (35, true)⟩,
           ⟨(some 37), .bin .eql (.t 36) (.c (.int .i64 2)), some (35, true)⟩,
           ⟨(some 38), .pick (.t 35) (.t 37) (.c (.b false)), none⟩,
           ⟨(some 39), .mv (.t 38), none⟩,
           ⟨(some 40), .mv (.t 7), some (39, true)⟩,
           ⟨(some 41), .bin .eql (.t 40) (.c (.int .i64 2)), some (39, true)⟩,
           ⟨(some 42), .pick (.t 39) (.t 41) (.c (.b false)), none⟩,
           ⟨(some 43), .mv (.t 42), none⟩,
           ⟨(some 44), .call 23 [], some (43, true)⟩,
           ⟨(some 45), .pick (.t 43) (.t 44) (.c (.b false)), none⟩,
           ⟨(some 2), .mv (.t 45), none⟩])
         .ret)
        .skip))
      (.seq
       (.reg none [⟨(some 47), .mv (.t 0), none⟩,
         ⟨(some 48), .call 24 [(.t 47)], none⟩,
         ⟨(some 46), .mv (.t 48), none⟩,
         ⟨(some 49), .extr (.t 46) 0, none⟩,
         ⟨(some 50), .extr (.t 46) 1, none⟩,
         ⟨(some 8), .mv (.t 49), none⟩,
         ⟨(some 9), .mv (.t 50), none⟩])
       (.seq
        (.reg none [⟨(some 51), .mv (.t 3), none⟩,
          ⟨(some 52), .mv (.t 8), none⟩,
          ⟨(some 53), .call 25 [(.t 51), (.t 52)], none⟩,
          ⟨(some 54), .mv (.t 53), none⟩,
          ⟨(some 55), .mv (.t 4), some (54, true)⟩,
          ⟨(some 56), .mv (.t 9), some (54, true)⟩,
          ⟨(some 57), .call 25 [(.t 55), (.t 56)], some (54, true)⟩,
          ⟨(some 58), .pick (.t 54) (.t 57) (.c (.b false)), none⟩,
          ⟨(some 59), .mv (.t 58), none⟩,
          ⟨(some 60), .mv (.t 5), some (59, true)⟩,
          ⟨(some 61), .bin .eql (.t 60) (.c (.int .i64 0)), some (59, true)⟩,
          ⟨(some 62), .pick (.t 59) (.t 61) (.c (.b false)), none⟩,
          ⟨(some 63), .mv (.t 62), none⟩,
          ⟨(some 64), .mv (.t 6), some (63, true)⟩,
          ⟨(some 65), .mv (.t 0), some (63, true)⟩,
          ⟨(some 66), .call 27 [(.t 65)], some (63, true)⟩,
          ⟨(some 67), .call 26 [(.t 64), (.t 66)], some (63, true)⟩,
          ⟨(some 68), .pick (.t 63) (.t 67) (.c (.b false)), none⟩,
          ⟨(some 69), .mv (.t 68), none⟩,
          ⟨(some 70), .mv (.t 7), some (69, true)⟩,
          ⟨(some 71), .bin .eql (.t 70) (.c (.int .i64 0)), some (69, true)⟩,
          ⟨(some 72), .pick (.t 69) (.t 71) (.c (.b false)), none⟩,
          ⟨(some 73), .mv (.t 72), none⟩,
          ⟨(some 74), .call 23 [], some (73, true)⟩,
          ⟨(some 75), .pick (.t 73) (.t 74) (.c (.b false)), none⟩,
          ⟨(some 2), .mv (.t 75), none⟩])
        .ret)))))) }
theorem f3P : prepF C Try.f3 = some f3A := by kernel_rfl

/-- congou/congoulaw06.CountsOdds -/
def f4A : AFunc :=
{ nargs := 1, res := [.t 2], body :=
  (.seq
   (.reg none [⟨(some 2), .mv (.c (.b false)), none⟩])
   (.seq
    (.reg none [⟨(some 8), .mv (.t 0), none⟩,
      ⟨(some 9), .call 20 [(.t 8)], none⟩,
      ⟨(some 10), .call 28 [(.t 9)], none⟩,
      ⟨(some 7), .mv (.t 10), none⟩,
      ⟨(some 11), .extr (.t 7) 0, none⟩,
      ⟨(some 12), .extr (.t 7) 1, none⟩,
      ⟨(some 3), .alloc [(.int .i64 0), (.int .i64 0)], none⟩,
      ⟨none, .store 2 (.t 3) (.t 11), none⟩,
      ⟨(some 4), .mv (.t 12), none⟩])
    (.seq
     (.seq
      (.reg none [⟨(some 13), .mv (.t 0), none⟩,
        ⟨(some 14), .call 29 [(.t 13)], none⟩,
        ⟨(some 15), .un .not (.t 14), none⟩])
      (.cond (.t 15)
       (.seq
        (.reg none [⟨(some 16), .load (some 2) (.t 3), none⟩,
          ⟨(some 17), .call 30 [(.t 16)], none⟩,
          ⟨(some 18), .mv (.t 17), none⟩,
          ⟨(some 19), .mv (.t 4), some (18, true)⟩,
          ⟨(some 20), .bin .eql (.t 19) (.c (.int .i64 2)), some (18, true)⟩,
          ⟨(some 21), .pick (.t 18) (.t 20) (.c (.b false)), none⟩,
          ⟨(some 22), .mv (.t 21), none⟩,
          ⟨(some 23), .call 23 [], some (22, true)⟩,
          ⟨(some 24), .pick (.t 22) (.t 23) (.c (.b false)), none⟩,
          ⟨(some 2), .mv (.t 24), none⟩])
        .ret)
       .skip))
     (.seq
      (.reg none [⟨(some 26), .mv (.t 0), none⟩,
        ⟨(some 27), .call 31 [(.t 26)], none⟩,
        ⟨(some 25), .mv (.t 27), none⟩,
        ⟨(some 28), .extr (.t 25) 0, none⟩,
        ⟨(some 29), .extr (.t 25) 1, none⟩,
        ⟨(some 5), .alloc [(.int .i64 0), (.int .i64 0)], none⟩,
        ⟨none, .store 2 (.t 5) (.t 28), none⟩,
        ⟨(some 6), .mv (.t 29), none⟩])
      (.seq
       (.reg none [⟨(some 30), .load (some 2) (.t 3), none⟩,
         ⟨(some 31), .load (some 2) (.t 5), none⟩,
         ⟨(some 32), .aeq false 2 (.t 30) (.t 31), none⟩,
         ⟨(some 33), .mv (.t 32), none⟩,
         ⟨(some 34), .mv (.t 4), some (33, true)⟩,
         ⟨(some 35), .mv (.t 6), some (33, true)⟩,
         ⟨(some 36), .bin .eql (.t 34) (.t 35), some (33, true)⟩,
         ⟨(some 37), .pick (.t 33) (.t 36) (.c (.b false)), none⟩,
         ⟨(some 38), .mv (.t 37), none⟩,
         ⟨(some 39), .call 23 [], some (38, true)⟩,
         ⟨(some 40), .pick (.t 38) (.t 39) (.c (.b false)), none⟩,
         ⟨(some 2), .mv (.t 40), none⟩])
       .ret))))) }
theorem f4P : prepF C Try.f4 = some f4A := by kernel_rfl

/-- congou/congoulaw06.CountsExchanged -/
def f5A : AFunc :=
{ nargs := 1, res := [.t 2], body :=
  (.seq
   (.reg none [⟨(some 2), .mv (.c (.b false)), none⟩])
   (.seq
    (.reg none [⟨(some 10), .mv (.t 0), none⟩,
      ⟨(some 11), .call 20 [(.t 10)], none⟩,
      ⟨(some 12), .call 28 [(.t 11)], none⟩,
      ⟨(some 9), .mv (.t 12), none⟩,
      ⟨(some 13), .extr (.t 9) 0, none⟩,
      ⟨(some 14), .extr (.t 9) 1, none⟩,
      ⟨(some 3), .alloc [(.int .i64 0), (.int .i64 0)], none⟩,
      ⟨none, .store 2 (.t 3) (.t 13), none⟩,
      ⟨(some 4), .mv (.t 14), none⟩])
    (.seq
     (.seq
      (.reg none [⟨(some 15), .mv (.t 0), none⟩,
        ⟨(some 16), .call 29 [(.t 15)], none⟩,
        ⟨(some 17), .un .not (.t 16), none⟩])
      (.cond (.t 17)
       (.seq
        (.reg none [⟨(some 18), .mv (.t 4), none⟩,
          ⟨(some 19), .bin .eql (.t 18) (.c (.int .i64 2)), none⟩,
          ⟨(some 20), .mv (.t 19), none⟩,
          ⟨(some 21), .call 23 [], some (20, true)⟩,
          ⟨(some 22), .pick (.t 20) (.t 21) (.c (.b false)), none⟩,
          ⟨(some 2), .mv (.t 22), none⟩])
        .ret)
       .skip))
     (.seq
      (.reg (some []) [⟨(some 24), .mv (.t 0), none⟩,
        ⟨(some 25), .iaddr 1 (.t 24) (.c (.int .i64 1)), none⟩,
        ⟨(some 26), .load none (.t 25), none⟩,
        ⟨(some 27), .iaddr 1 (.t 26) (.c (.int .i64 1)), none⟩,
        ⟨(some 28), .load none (.t 27), none⟩,
        ⟨(some 29), .mv (.t 0), none⟩,
        ⟨(some 30), .iaddr 1 (.t 29) (.c (.int .i64 1)), none⟩,
        ⟨(some 31), .load none (.t 30), none⟩,
        ⟨(some 32), .iaddr 1 (.t 31) (.c (.int .i64 0)), none⟩,
        ⟨(some 33), .load none (.t 32), none⟩,
        ⟨(some 34), .bslice [(.int .i64 0)] 2 1 [(0, (.t 28)), (1, (.t 33))], none⟩,
        ⟨(some 35), .mv (.t 0), none⟩,
        ⟨(some 36), .iaddr 1 (.t 35) (.c (.int .i64 0)), none⟩,
        ⟨(some 37), .load none (.t 36), none⟩,
        ⟨(some 38), .iaddr 1 (.t 37) (.c (.int .i64 1)), none⟩,
        ⟨(some 39), .load none (.t 38), none⟩,
        ⟨(some 40), .mv (.t 0), none⟩,
        ⟨(some 41), .iaddr 1 (.t 40) (.c (.int .i64 0)), none⟩,
        ⟨(some 42), .load none (.t 41), none⟩,
        ⟨(some 43), .iaddr 1 (.t 42) (.c (.int .i64 0)), none⟩,
        ⟨(some 44), .load none (.t 43), none⟩,
        ⟨(some 45), .bslice [(.int .i64 0)] 2 1 [(0, (.t 39)), (1, (.t 44))], none⟩,
        ⟨(some 46), .bslice [.nils] 2 1 [(0, (.t 34)), (1, (.t 45))], none⟩,
        ⟨(some 47), .call 28 [(.t 46)], none⟩,
        ⟨(some 23), .mv (.t 47), none⟩,
        ⟨(some 48), .extr (.t 23) 0, none⟩,
        ⟨(some 49), .extr (.t 23) 1, none⟩,
        ⟨(some 5), .alloc [(.int .i64 0), (.int .i64 0)], none⟩,
        ⟨none, .store 2 (.t 5) (.t 48), none⟩,
        ⟨(some 6), .mv (.t 49), none⟩])
      (.seq
       (.reg (some []) [⟨(some 51), .mv (.t 0), none⟩,
         ⟨(some 52), .iaddr 1 (.t 51) (.c (.int .i64 1)), none⟩,
         ⟨(some 53), .load none (.t 52), none⟩,
         ⟨(some 54), .iaddr 1 (.t 53) (.c (.int .i64 0)), none⟩,
         ⟨(some 55), .load none (.t 54), none⟩,
         ⟨(some 56), .mv (.t 0), none⟩,
         ⟨(some 57), .iaddr 1 (.t 56) (.c (.int .i64 1)), none⟩,
         ⟨(some 58), .load none (.t 57), none⟩,
         ⟨(some 59), .iaddr 1 (.t 58) (.c (.int .i64 1)), none⟩,
         ⟨(some 60), .load none (.t 59), none⟩,
         ⟨(some 61), .bslice [(.int .i64 0)] 2 1 [(0, (.t 55)), (1, (.t 60))], none⟩,
         ⟨(some 62), .mv (.t 0), none⟩,
         ⟨(some 63), .iaddr 1 (.t 62) (.c (.int .i64 0)), none⟩,
         ⟨(some 64), .load none (.t 63), none⟩,
         ⟨(some 65), .iaddr 1 (.t 64) (.c (.int .i64 0)), none⟩,
         ⟨(some 66), .load none (.t 65), none⟩,
         ⟨(some 67), .mv (.t 0), none⟩,
         ⟨(some 68), .iaddr 1 (.t 67) (.c (.int .i64 0)), none⟩,
         ⟨(some 69), .load none (.t 68), none⟩,
         ⟨(some 70), .iaddr 1 (.t 69) (.c (.int .i64 1)), none⟩,
         ⟨(some 71), .load none (.t 70), none⟩,
         ⟨(some 72), .bslice [(.int .i64 0)] 2 1 [(0, (.t 66)), (1, (.t 71))], none⟩,
         ⟨(some 73), .bslice [.nils] 2 1 [(0, (.t 61)), (1, (.t 72))], none⟩,
         ⟨(some 74), .call 28 [(.t 73)], none⟩,
         ⟨(some 50), .mv (.t 74), none⟩,
         ⟨(some 75), .extr (.t 50) 0, none⟩,
         ⟨(some 76), .extr (.t 50) 1, none⟩,
         ⟨(some 7), .alloc [(.int .i64 0), (.int .i64 0)], none⟩,
         ⟨none, .store 2 (.t 7) (.t 75), none⟩,
         ⟨(some 8), .mv (.t 76), none⟩])
       (.seq
        (.seq
         (.reg none [⟨(some 77), .load (some 2) (.t 3), none⟩,
           ⟨(some 78), .load (some 2) (.t 5), none⟩,
           ⟨(some 79), .aeq true 2 (.t 77) (.t 78), none⟩,
           ⟨(some 80), .mv (.t 79), none⟩,
           ⟨(some 81), .mv (.t 4), some (80, false)⟩,
           ⟨(some 82), .mv (.t 6), some (80, false)⟩,
           ⟨(some 83), .bin .neq (.t 81) (.t 82), some (80, false)⟩,
           ⟨(some 84), .pick (.t 80) (.c (.b true)) (.t 83), none⟩,
           ⟨(some 85), .mv (.t 84), none⟩,
           ⟨(some 86), .mv (.t 4), some (85, false)⟩,
           ⟨(some 87), .bin .eql (.t 86) (.c (.int .i64 0)), some (85, false)⟩,
           ⟨(some 88), .mv (.t 0), some (85, false)⟩,
           ⟨(some 89), .iaddr 1 (.t 88) (.c (.int .i64 0)), some (85, false)⟩,
           ⟨(some 90), .load none (.t 89), some (85, false)⟩,
           ⟨(some 91), .iaddr 1 (.t 90) (.c (.int .i64 1)), some (85, false)⟩,
           ⟨(some 92), .load none (.t 91), some (85, false)⟩,
           ⟨(some 93), .bin .gtr (.t 92) (.c (.int .i64 0)), some (85, false)⟩,
           ⟨(some 94), .mv (.t 93), some (85, false)⟩,
           ⟨(some 95), .mv (.t 0), some (94, true)⟩,
           ⟨(some 96), .iaddr 1 (.t 95) (.c (.int .i64 1)), some (94, true)⟩,
           ⟨(some 97), .load none (.t 96), some (94, true)⟩,
           ⟨(some 98), .iaddr 1 (.t 97) (.c (.int .i64 0)), some (94, true)⟩,
           ⟨(some 99), .load none (.t 98), some (94, true)⟩,
           ⟨(some 100), .bin .gtr (.t 99) (.c (.int .i64 0)), some (94, true)⟩,
           ⟨(some 101), .pick (.t 94) (.t 100) (.c (.b false)), some (85, false)⟩,
           ⟨(some 102), .beq true (.t 87) (.t 101), some (85, false)⟩,
           ⟨(some 103), .pick (.t 85) (.c (.b true)) (.t 102), none⟩,
           ⟨(some 104), .mv (.t 103), none⟩,
           ⟨(some 105), .mv (.t 8), some (104, false)⟩,
           ⟨(some 106), .bin .eql (.t 105) (.c (.int .i64 0)), some (104, false)⟩,
           ⟨(some 107), .mv (.t 0), some (104, false)⟩,
           ⟨(some 108), .iaddr 1 (.t 107) (.c (.int .i64 0)), some (104, false)⟩,
           ⟨(some 109), .load none (.t 108), some (104, false)⟩,
           ⟨(some 110), .iaddr 1 (.t 109) (.c (.int .i64 0)), some (104, false)⟩,
           ⟨(some 111), .load none (.t 110), some (104, false)⟩,
           ⟨(some 112), .bin .gtr (.t 111) (.c (.int .i64 0)), some (104, false)⟩,
           ⟨(some 113), .mv (.t 112), some (104, false)⟩,
           ⟨(some 114), .mv (.t 0), some (113, true)⟩,
           ⟨(some 115), .iaddr 1 (.t 114) (.c (.int .i64 1)), some (113, true)⟩,
           ⟨(some 116), .load none (.t 115), some (113, true)⟩,
           ⟨(some 117), .iaddr 1 (.t 116) (.c (.int .i64 1)), some (113, true)⟩,
           ⟨(some 118), .load none (.t 117), some (113, true)⟩,
           ⟨(some 119), .bin .gtr (.t 118) (.c (.int .i64 0)), some (113, true)⟩,
           ⟨(some 120), .pick (.t 113) (.t 119) (.c (.b false)), some (104, false)⟩,
           ⟨(some 121), .beq true (.t 106) (.t 120), some (104, false)⟩,
           ⟨(some 122), .pick (.t 104) (.c (.b true)) (.t 121), none⟩])
         (.cond (.t 122)
          (.seq
           (.reg none [⟨(some 2), .mv (.c (.b false)), none⟩])
           .ret)
          .skip))
        (.seq
         (.seq
          (.reg none [⟨(some 123), .mv (.t 4), none⟩,
            ⟨(some 124), .bin .neq (.t 123) (.c (.int .i64 0)), none⟩,
            ⟨(some 125), .mv (.t 124), none⟩,
            ⟨(some 126), .mv (.t 8), some (125, false)⟩,
            ⟨(some 127), .bin .neq (.t 126) (.c (.int .i64 0)), some (125, false)⟩,
            ⟨(some 128), .pick (.t 125) (.c (.b true)) (.t 127), none⟩])
          (.cond (.t 128)
           (.seq
            (.reg none [⟨(some 129), .mv (.t 4), none⟩,
              ⟨(some 130), .bin .eql (.t 129) (.c (.int .i64 0)), none⟩,
              ⟨(some 131), .mv (.t 130), none⟩,
              ⟨(some 132), .mv (.t 4), some (131, false)⟩,
              ⟨(some 133), .bin .eql (.t 132) (.c (.int .i64 5)), some (131, false)⟩,
              ⟨(some 134), .pick (.t 131) (.c (.b true)) (.t 133), none⟩,
              ⟨(some 135), .mv (.t 134), none⟩,
              ⟨(some 136), .mv (.t 8), some (135, true)⟩,
              ⟨(some 137), .bin .eql (.t 136) (.c (.int .i64 0)), some (135, true)⟩,
              ⟨(some 138), .mv (.t 137), some (135, true)⟩,
              ⟨(some 139), .mv (.t 8), some (138, false)⟩,
              ⟨(some 140), .bin .eql (.t 139) (.c (.int .i64 5)), some (138, false)⟩,
              ⟨(some 141), .pick (.t 138) (.c (.b true)) (.t 140), some (135, true)⟩,
              ⟨(some 142), .pick (.t 135) (.t 141) (.c (.b false)), none⟩,
              ⟨(some 143), .mv (.t 142), none⟩,
              ⟨(some 144), .call 23 [], some (143, true)⟩,
              ⟨(some 145), .pick (.t 143) (.t 144) (.c (.b false)), none⟩,
              ⟨(some 2), .mv (.t 145), none⟩])
            .ret)
           .skip))
         (.seq
          (.reg none [⟨(some 146), .faddr 0 (.t 3), none⟩,
            ⟨(some 147), .load none (.t 146), none⟩,
            ⟨(some 148), .faddr 1 (.t 7), none⟩,
            ⟨(some 149), .load none (.t 148), none⟩,
            ⟨(some 150), .bin .eql (.t 147) (.t 149), none⟩,
            ⟨(some 151), .mv (.t 150), none⟩,
            ⟨(some 152), .faddr 1 (.t 3), some (151, true)⟩,
            ⟨(some 153), .load none (.t 152), some (151, true)⟩,
            ⟨(some 154), .faddr 0 (.t 7), some (151, true)⟩,
            ⟨(some 155), .load none (.t 154), some (151, true)⟩,
            ⟨(some 156), .bin .eql (.t 153) (.t 155), some (151, true)⟩,
            ⟨(some 157), .pick (.t 151) (.t 156) (.c (.b false)), none⟩,
            ⟨(some 158), .mv (.t 157), none⟩,
            ⟨(some 159), .call 23 [], some (158, true)⟩,
            ⟨(some 160), .pick (.t 158) (.t 159) (.c (.b false)), none⟩,
            ⟨(some 2), .mv (.t 160), none⟩])
          .ret)))))))) }
theorem f5P : prepF C Try.f5 = some f5A := by kernel_rfl

/-- congou/congoulaw06.CountsSwaps -/
def f6A : AFunc :=
{ nargs := 5, res := [.t 10], body :=
  (.seq
   (.reg none [⟨(some 10), .mv (.c (.b false)), none⟩])
   (.seq
    (.reg none [⟨(some 16), .mv (.t 0), none⟩,
      ⟨(some 17), .call 20 [(.t 16)], none⟩,
      ⟨(some 18), .mv (.t 1), none⟩,
      ⟨(some 19), .mv (.t 2), none⟩,
      ⟨(some 20), .mv (.t 3), none⟩,
      ⟨(some 21), .mv (.t 4), none⟩,
      ⟨(some 22), .call 32 [(.t 17), (.t 18), (.t 19), (.t 20), (.t 21)], none⟩,
      ⟨(some 15), .mv (.t 22), none⟩,
      ⟨(some 23), .extr (.t 15) 0, none⟩,
      ⟨(some 24), .extr (.t 15) 1, none⟩,
      ⟨(some 11), .mv (.t 23), none⟩,
      ⟨(some 12), .mv (.t 24), none⟩])
    (.seq
     (.seq
      (.reg none [⟨(some 25), .mv (.t 0), none⟩,
        ⟨(some 26), .call 22 [(.t 25)], none⟩,
        ⟨(some 27), .un .not (.t 26), none⟩,
        ⟨(some 28), .mv (.t 27), none⟩,
        ⟨(some 29), .mv (.t 0), some (28, false)⟩,
        ⟨(some 30), .mv (.t 1), some (28, false)⟩,
        ⟨(some 31), .mv (.t 2), some (28, false)⟩,
        ⟨(some 32), .mv (.t 3), some (28, false)⟩,
        ⟨(some 33), .mv (.t 4), some (28, false)⟩,
        ⟨(some 34), .call 33 [(.t 29), (.t 30), (.t 31), (.t 32), (.t 33)], some (28, false)⟩,
        ⟨(some 35), .un .not (.t 34), some (28, false)⟩,
        ⟨(some 36), .pick (.t 28) (.c (.b true)) (.t 35), none⟩])
      (.cond (.t 36)
       (.seq
        (.reg none [⟨(some 37), .mv (.t 11), none⟩,
          ⟨(some 38), .len (.t 37), none⟩,
          ⟨(some 39), .bin .eql (.t 38) (.c (.int .i64 0)), none⟩,
          ⟨(some 40), .mv (.t 39), none⟩,
          ⟨(some 41), .mv (.t 12), some (40, true)⟩,
          ⟨(some 42), .bin .eql (.t 41) (.c (.int .i64 2)), some (40, true)⟩,
          ⟨(some 43), .pick (.t 40) (.t 42) (.c (.b false)), none⟩,
          ⟨(some 44), .mv (.t 43), none⟩,
          ⟨(some 45), .call 23 [], some (44, true)⟩,
          ⟨(some 46), .pick (.t 44) (.t 45) (.c (.b false)), none⟩,
          ⟨(some 10), .mv (.t 46), none⟩])
        .ret)
       .skip))
     (.seq
      (.reg none [⟨(some 48), .mv (.t 0), none⟩,
        ⟨(some 49), .mv (.t 1), none⟩,
        ⟨(some 50), .mv (.t 2), none⟩,
        ⟨(some 51), .mv (.t 3), none⟩,
        ⟨(some 52), .mv (.t 4), none⟩,
        ⟨(some 53), .call 34 [(.t 48), (.t 49), (.t 50), (.t 51), (.t 52)], none⟩,
        ⟨(some 47), .mv (.t 53), none⟩,
        ⟨(some 54), .extr (.t 47) 0, none⟩,
        ⟨(some 55), .extr (.t 47) 1, none⟩,
        ⟨(some 13), .mv (.t 54), none⟩,
        ⟨(some 14), .mv (.t 55), none⟩])
      (.seq
       (.reg none [⟨(some 56), .mv (.t 11), none⟩,
         ⟨(some 57), .mv (.t 13), none⟩,
         ⟨(some 58), .call 26 [(.t 56), (.t 57)], none⟩,
         ⟨(some 59), .mv (.t 58), none⟩,
         ⟨(some 60), .mv (.t 12), some (59, true)⟩,
         ⟨(some 61), .mv (.t 14), some (59, true)⟩,
         ⟨(some 62), .bin .eql (.t 60) (.t 61), some (59, true)⟩,
         ⟨(some 63), .pick (.t 59) (.t 62) (.c (.b false)), none⟩,
         ⟨(some 64), .mv (.t 63), none⟩,
         ⟨(some 65), .call 23 [], some (64, true)⟩,
         ⟨(some 66), .pick (.t 64) (.t 65) (.c (.b false)), none⟩,
         ⟨(some 10), .mv (.t 66), none⟩])
       .ret))))) }
theorem f6P : prepF C Try.f6 = some f6A := by kernel_rfl

/-- congou/congoulaw06.CountsOff -/
def f7A : AFunc :=
{ nargs := 1, res := [.t 2], body :=
  (.seq
   (.reg none [⟨(some 2), .mv (.c (.b false)), none⟩])
   (.seq
    (.reg none [⟨(some 8), .mv (.t 0), none⟩,
      ⟨(some 9), .call 20 [(.t 8)], none⟩,
      ⟨(some 10), .call 35 [(.t 9)], none⟩,
      ⟨(some 7), .mv (.t 10), none⟩,
      ⟨(some 11), .extr (.t 7) 0, none⟩,
      ⟨(some 12), .extr (.t 7) 1, none⟩,
      ⟨(some 3), .alloc [(.int .i64 0), (.int .i64 0)], none⟩,
      ⟨none, .store 2 (.t 3) (.t 11), none⟩,
      ⟨(some 4), .mv (.t 12), none⟩])
    (.seq
     (.seq
      (.reg none [⟨(some 13), .mv (.t 0), none⟩,
        ⟨(some 14), .call 22 [(.t 13)], none⟩,
        ⟨(some 15), .un .not (.t 14), none⟩])
      (.cond (.t 15)
       (.seq
        (.reg none [⟨(some 16), .load (some 2) (.t 3), none⟩,
          ⟨(some 17), .call 30 [(.t 16)], none⟩,
          ⟨(some 18), .mv (.t 17), none⟩,
          ⟨(some 19), .mv (.t 4), some (18, true)⟩,
          ⟨(some 20), .bin .eql (.t 19) (.c (.int .i64 2)), some (18, true)⟩,
          ⟨(some 21), .pick (.t 18) (.t 20) (.c (.b false)), none⟩,
          ⟨(some 22), .mv (.t 21), none⟩,
          ⟨(some 23), .call 23 [], some (22, true)⟩,
          ⟨(some 24), .pick (.t 22) (.t 23) (.c (.b false)), none⟩,
          ⟨(some 2), .mv (.t 24), none⟩])
        .ret)
       .skip))
     (.seq
      (.reg none [⟨(some 26), .mv (.t 0), none⟩,
        ⟨(some 27), .call 36 [(.t 26)], none⟩,
        ⟨(some 25), .mv (.t 27), none⟩,
        ⟨(some 28), .extr (.t 25) 0, none⟩,
        ⟨(some 29), .extr (.t 25) 1, none⟩,
        ⟨(some 5), .alloc [(.int .i64 0), (.int .i64 0)], none⟩,
        ⟨none, .store 2 (.t 5) (.t 28), none⟩,
        ⟨(some 6), .mv (.t 29), none⟩])
      (.seq
       (.reg none [⟨(some 30), .load (some 2) (.t 3), none⟩,
         ⟨(some 31), .load (some 2) (.t 5), none⟩,
         ⟨(some 32), .aeq false 2 (.t 30) (.t 31), none⟩,
         ⟨(some 33), .mv (.t 32), none⟩,
         ⟨(some 34), .mv (.t 4), some (33, true)⟩,
         ⟨(some 35), .mv (.t 6), some (33, true)⟩,
         ⟨(some 36), .bin .eql (.t 34) (.t 35), some (33, true)⟩,
         ⟨(some 37), .pick (.t 33) (.t 36) (.c (.b false)), none⟩,
         ⟨(some 38), .mv (.t 37), none⟩,
         ⟨(some 39), .call 23 [], some (38, true)⟩,
         ⟨(some 40), .pick (.t 38) (.t 39) (.c (.b false)), none⟩,
         ⟨(some 2), .mv (.t 40), none⟩])
       .ret))))) }
theorem f7P : prepF C Try.f7 = some f7A := by kernel_rfl

/-- congou/congoulaw06.CountsDue -/
def f8A : AFunc :=
{ nargs := 1, res := [.t 2], body :=
  (.seq
   (.reg none [⟨(some 2), .mv (.c (.b false)), none⟩])
   (.seq
    (.reg none [⟨(some 16), .mv (.t 0), none⟩,
      ⟨(some 17), .call 20 [(.t 16)], none⟩,
      ⟨(some 18), .call 35 [(.t 17)], none⟩,
      ⟨(some 15), .mv (.t 18), none⟩,
      ⟨(some 19), .extr (.t 15) 0, none⟩,
      ⟨(some 20), .extr (.t 15) 1, none⟩,
      ⟨(some 3), .alloc [(.int .i64 0), (.int .i64 0)], none⟩,
      ⟨none, .store 2 (.t 3) (.t 19), none⟩,
      ⟨(some 4), .mv (.t 20), none⟩])
    (.seq
     (.seq
      (.reg none [⟨(some 21), .mv (.t 0), none⟩,
        ⟨(some 22), .call 22 [(.t 21)], none⟩,
        ⟨(some 23), .un .not (.t 22), none⟩])
      (.cond (.t 23)
       (.seq
        (.reg none [⟨(some 24), .mv (.t 4), none⟩,
          ⟨(some 25), .bin .eql (.t 24) (.c (.int .i64 2)), none⟩,
          ⟨(some 26), .mv (.t 25), none⟩,
          ⟨(some 27), .call 23 [], some (26, true)⟩,
          ⟨(some 28), .pick (.t 26) (.t 27) (.c (.b false)), none⟩,
          ⟨(some 2), .mv (.t 28), none⟩])
        .ret)
       .skip))
     (.seq
      (.reg none [⟨(some 30), .mv (.t 0), none⟩,
        ⟨(some 31), .call 24 [(.t 30)], none⟩,
        ⟨(some 29), .mv (.t 31), none⟩,
        ⟨(some 32), .extr (.t 29) 0, none⟩,
        ⟨(some 33), .extr (.t 29) 1, none⟩,
        ⟨(some 5), .mv (.t 32), none⟩,
        ⟨(some 6), .mv (.t 33), none⟩])
      (.seq
       (.reg none [⟨(some 7), .mv (.c (.int .i64 0)), none⟩])
       (.seq
        (.seq
         (.reg none [⟨(some 34), .mv (.t 5), none⟩,
           ⟨(some 35), .len (.t 34), none⟩,
           ⟨(some 36), .mv (.c (.int .i64 0)), none⟩])
         (.block 0
          (.loop
           (.seq
            (.reg none [⟨(some 37), .bin .lss (.t 36) (.t 35), none⟩])
            (.seq
             (.cond (.t 37)
              .skip
              (.exit 0))
             (.seq
              (.block 1
               (.seq
                (.reg none [⟨(some 38), .iaddr 1 (.t 34) (.t 36), none⟩,
                  ⟨(some 39), .load none (.t 38), none⟩,
                  ⟨(some 9), .mv (.t 39), none⟩])
                (.reg none [⟨(some 40), .mv (.t 7), none⟩,
                  ⟨(some 41), .mv (.t 9), none⟩,
                  ⟨(some 42), .bin .add (.t 40) (.t 41), none⟩,
                  ⟨(some 7), .mv (.t 42), none⟩])))
              (.reg none [⟨(some 43), .bin .add (.t 36) (.c (.int .i64 1)), none⟩,
                ⟨(some 36), .mv (.t 43), none⟩])))))))
        (.seq
         (.seq
          (.reg none [⟨(some 44), .mv (.t 5), none⟩,
            ⟨(some 45), .call 37 [(.t 44), (.c (.int .i64 0))], none⟩,
            ⟨(some 46), .mv (.t 45), none⟩,
            ⟨(some 47), .mv (.t 6), some (46, false)⟩,
            ⟨(some 48), .call 37 [(.t 47), (.c (.int .i64 0))], some (46, false)⟩,
            ⟨(some 49), .pick (.t 46) (.c (.b true)) (.t 48), none⟩])
          (.cond (.t 49)
           (.seq
            (.reg none [⟨(some 50), .mv (.t 4), none⟩,
              ⟨(some 51), .bin .eql (.t 50) (.c (.int .i64 5)), none⟩,
              ⟨(some 52), .mv (.t 51), none⟩,
              ⟨(some 53), .call 23 [], some (52, true)⟩,
              ⟨(some 54), .pick (.t 52) (.t 53) (.c (.b false)), none⟩,
              ⟨(some 2), .mv (.t 54), none⟩])
            .ret)
           .skip))
         (.seq
          (.reg none [⟨(some 10), .mv (.c (.b true)), none⟩])
          (.seq
           (.seq
            (.reg none [⟨(some 55), .mv (.t 0), none⟩,
              ⟨(some 56), .len (.t 55), none⟩,
              ⟨(some 57), .mv (.c (.int .i64 0)), none⟩])
            (.block 2
             (.loop
              (.seq
               (.reg none [⟨(some 58), .bin .lss (.t 57) (.t 56), none⟩])
               (.seq
                (.cond (.t 58)
                 .skip
                 (.exit 2))
                (.seq
                 (.block 3
                  (.seq
                   (.reg none [⟨(some 59), .mv (.t 57), none⟩,
                     ⟨(some 60), .iaddr 1 (.t 55) (.t 57), none⟩,
                     ⟨(some 61), .load none (.t 60), none⟩,
                     ⟨(some 11), .mv (.t 59), none⟩,
                     ⟨(some 12), .mv (.t 61), none⟩])
                   (.seq
                    (.reg none [⟨(some 62), .mv (.t 12), none⟩,
                      ⟨(some 63), .len (.t 62), none⟩,
                      ⟨(some 64), .mv (.c (.int .i64 0)), none⟩])
                    (.block 4
                     (.loop
                      (.seq
                       (.reg none [⟨(some 65), .bin .lss (.t 64) (.t 63), none⟩])
                       (.seq
                        (.cond (.t 65)
                         .skip
                         (.exit 4))
                        (.seq
                         (.block 5
                          (.seq
                           (.reg none [⟨(some 66), .mv (.t 64), none⟩,
                             ⟨(some 67), .iaddr 1 (.t 62) (.t 64), none⟩,
                             ⟨(some 68), .load none (.t 67), none⟩,
                             ⟨(some 13), .mv (.t 66), none⟩,
                             ⟨(some 14), .mv (.t 68), none⟩])
                           (.reg (some []) [⟨(some 69), .mv (.t 10), none⟩,
                             ⟨(some 70), .mv (.t 69), none⟩,
                             ⟨(some 71), .mv (.t 14), some (70, true)⟩,
                             ⟨(some 72), .mv (.t 7), some (70, true)⟩,
                             ⟨(some 73), .bin .mul (.t 71) (.t 72), some (70, true)⟩,
                             ⟨(some 74), .mv (.t 5), some (70, true)⟩,
                             ⟨(some 75), .mv (.t 11), some (70, true)⟩,
                             ⟨(some 76), .iaddr 1 (.t 74) (.t 75), some (70, true)⟩,
                             ⟨(some 77), .load none (.t 76), some (70, true)⟩,
                             ⟨(some 78), .mv (.t 6), some (70, true)⟩,
                             ⟨(some 79), .mv (.t 13), some (70, true)⟩,
                             ⟨(some 80), .iaddr 1 (.t 78) (.t 79), some (70, true)⟩,
                             ⟨(some 81), .load none (.t 80), some (70, true)⟩,
                             ⟨(some 82), .bin .mul (.t 77) (.t 81), some (70, true)⟩,
                             ⟨(some 83), .bin .eql (.t 73) (.t 82), some (70, true)⟩,
                             ⟨(some 84), .pick (.t 70) (.t 83) (.c (.b false)), none⟩,
                             ⟨(some 10), .mv (.t 84), none⟩])))
                         (.reg none [⟨(some 85), .bin .add (.t 64) (.c (.int .i64 1)), none⟩,
                           ⟨(some 64), .mv (.t 85), none⟩])))))))))
                 (.reg none [⟨(some 86), .bin .add (.t 57) (.c (.int .i64 1)), none⟩,
                   ⟨(some 57), .mv (.t 86), none⟩])))))))
           (.seq
            (.reg none [⟨(some 87), .mv (.t 4), none⟩,
              ⟨(some 88), .bin .eql (.t 87) (.c (.int .i64 0)), none⟩,
              ⟨(some 89), .mv (.t 88), none⟩,
              ⟨(some 90), .faddr 1 (.t 3), some (89, true)⟩,
              ⟨(some 91), .load none (.t 90), some (89, true)⟩,
              ⟨(some 92), .bin .geq (.t 91) (.c (.int .i64 1)), some (89, true)⟩,
              ⟨(some 93), .pick (.t 89) (.t 92) (.c (.b false)), none⟩,
              ⟨(some 94), .mv (.t 93), none⟩,
              ⟨(some 95), .faddr 1 (.t 3), some (94, true)⟩,
              ⟨(some 96), .load none (.t 95), some (94, true)⟩,
              ⟨(some 97), .bin .leq (.t 96) (.c (.int .i64 1099511627776)), some (94, true)⟩,
              ⟨(some 98), .pick (.t 94) (.t 97) (.c (.b false)), none⟩,
              ⟨(some 99), .mv (.t 98), none⟩,
              ⟨(some 100), .faddr 0 (.t 3), some (99, true)⟩,
              ⟨(some 101), .load none (.t 100), some (99, true)⟩,
              ⟨(some 102), .bin .geq (.t 101) (.c (.int .i64 0)), some (99, true)⟩,
              ⟨(some 103), .pick (.t 99) (.t 102) (.c (.b false)), none⟩,
              ⟨(some 104), .mv (.t 103), none⟩,
              ⟨(some 105), .faddr 0 (.t 3), some (104, true)⟩,
              ⟨(some 106), .load none (.t 105), some (104, true)⟩,
              ⟨(some 107), .bin .leq (.t 106) (.c (.int .i64 1125899906842624)), some (104, true)⟩,
              ⟨(some 108), .pick (.t 104) (.t 107) (.c (.b false)), none⟩,
              ⟨(some 109), .mv (.t 108), none⟩,
              ⟨(some 110), .faddr 0 (.t 3), some (109, true)⟩,
              ⟨(some 111), .load none (.t 110), some (109, true)⟩,
              ⟨(some 112), .bin .eql (.t 111) (.c (.int .i64 0)), some (109, true)⟩,
              ⟨(some 113), .mv (.t 10), some (109, true)⟩,
              ⟨(some 114), .beq false (.t 112) (.t 113), some (109, true)⟩,
              ⟨(some 115), .pick (.t 109) (.t 114) (.c (.b false)), none⟩,
              ⟨(some 116), .mv (.t 115), none⟩,
              ⟨(some 117), .faddr 0 (.t 3), some (116, true)⟩,
              ⟨(some 118), .load none (.t 117), some (116, true)⟩,
              ⟨(some 119), .mv (.t 7), some (116, true)⟩,
              ⟨(some 120), .mv (.t 5), some (116, true)⟩,
              ⟨(some 121), .len (.t 120), some (116, true)⟩,
              ⟨(some 122), .mv (.t 6), some (116, true)⟩,
              ⟨(some 123), .len (.t 122), some (116, true)⟩,
              ⟨(some 124), .mn [(.t 121), (.t 123)], some (116, true)⟩,
              ⟨(some 125), .bin .sub (.t 124) (.c (.int .i64 1)), some (116, true)⟩,
              ⟨(some 126), .bin .mul (.t 119) (.t 125), some (116, true)⟩,
              ⟨(some 127), .faddr 1 (.t 3), some (116, true)⟩,
              ⟨(some 128), .load none (.t 127), some (116, true)⟩,
              ⟨(some 129), .bin .mul (.t 126) (.t 128), some (116, true)⟩,
              ⟨(some 130), .bin .leq (.t 118) (.t 129), some (116, true)⟩,
              ⟨(some 131), .pick (.t 116) (.t 130) (.c (.b false)), none⟩,
              ⟨(some 132), .mv (.t 131), none⟩,
              ⟨(some 133), .call 23 [], some (132, true)⟩,
              ⟨(some 134), .pick (.t 132) (.t 133) (.c (.b false)), none⟩,
              ⟨(some 2), .mv (.t 134), none⟩])
            .ret)))))))))) }
theorem f8P : prepF C Try.f8 = some f8A := by kernel_rfl

/-- congou/congoulaw06.CountsCounts -/
def f9A : AFunc :=
{ nargs := 2, res := [.t 4], body :=
  (.seq
   (.reg none [⟨(some 4), .mv (.c (.b false)), none⟩])
   (.seq
    (.reg none [⟨(some 8), .mv (.t 0), none⟩,
      ⟨(some 9), .call 39 [(.t 8)], none⟩,
      ⟨(some 10), .mv (.t 1), none⟩,
      ⟨(some 11), .call 39 [(.t 10)], none⟩,
      ⟨(some 12), .call 38 [(.t 9), (.t 11)], none⟩,
      ⟨(some 7), .mv (.t 12), none⟩,
      ⟨(some 13), .extr (.t 7) 0, none⟩,
      ⟨(some 14), .extr (.t 7) 1, none⟩,
      ⟨(some 5), .mv (.t 13), none⟩,
      ⟨(some 6), .mv (.t 14), none⟩])
    (.seq
     (.seq
      (.reg none [⟨(some 15), .mv (.t 0), none⟩,
        ⟨(some 16), .call 40 [(.t 15)], none⟩,
        ⟨(some 17), .un .not (.t 16), none⟩,
        ⟨(some 18), .mv (.t 17), none⟩,
        ⟨(some 19), .mv (.t 1), some (18, false)⟩,
        ⟨(some 20), .call 40 [(.t 19)], some (18, false)⟩,
        ⟨(some 21), .un .not (.t 20), some (18, false)⟩,
        ⟨(some 22), .pick (.t 18) (.c (.b true)) (.t 21), none⟩])
      (.cond (.t 22)
       (.seq
        (.reg none [⟨(some 23), .mv (.t 5), none⟩,
          ⟨(some 24), .bin .eql (.t 23) (.c (.int .i64 0)), none⟩,
          ⟨(some 25), .mv (.t 24), none⟩,
          ⟨(some 26), .mv (.t 6), some (25, true)⟩,
          ⟨(some 27), .bin .eql (.t 26) (.c (.int .i64 2)), some (25, true)⟩,
          ⟨(some 28), .pick (.t 25) (.t 27) (.c (.b false)), none⟩,
          ⟨(some 29), .mv (.t 28), none⟩,
          ⟨(some 30), .call 23 [], some (29, true)⟩,
          ⟨(some 31), .pick (.t 29) (.t 30) (.c (.b false)), none⟩,
          ⟨(some 4), .mv (.t 31), none⟩])
        .ret)
       .skip))
     (.seq
      (.reg none [⟨(some 32), .mv (.t 5), none⟩,
        ⟨(some 33), .mv (.t 0), none⟩,
        ⟨(some 34), .mv (.t 1), none⟩,
        ⟨(some 35), .call 41 [(.t 33), (.t 34)], none⟩,
        ⟨(some 36), .len (.t 35), none⟩,
        ⟨(some 37), .bin .eql (.t 32) (.t 36), none⟩,
        ⟨(some 38), .mv (.t 37), none⟩,
        ⟨(some 39), .mv (.t 6), some (38, true)⟩,
        ⟨(some 40), .bin .eql (.t 39) (.c (.int .i64 0)), some (38, true)⟩,
        ⟨(some 41), .pick (.t 38) (.t 40) (.c (.b false)), none⟩,
        ⟨(some 42), .mv (.t 41), none⟩,
        ⟨(some 43), .call 23 [], some (42, true)⟩,
        ⟨(some 44), .pick (.t 42) (.t 43) (.c (.b false)), none⟩,
        ⟨(some 4), .mv (.t 44), none⟩])
      .ret)))) }
theorem f9P : prepF C Try.f9 = some f9A := by kernel_rfl

/-- congou/congoulaw06.CountsTwo -/
def f10A : AFunc :=
{ nargs := 4, res := [.t 8], body :=
  (.seq
   (.reg none [⟨(some 8), .mv (.c (.b false)), none⟩])
   (.seq
    (.reg none [⟨(some 12), .mv (.t 0), none⟩,
      ⟨(some 13), .mv (.t 1), none⟩,
      ⟨(some 14), .bslice [(.int .i64 0)] 2 1 [(0, (.t 12)), (1, (.t 13))], none⟩,
      ⟨(some 15), .mv (.t 2), none⟩,
      ⟨(some 16), .mv (.t 3), none⟩,
      ⟨(some 17), .bslice [(.int .i64 0)] 2 1 [(0, (.t 15)), (1, (.t 16))], none⟩,
      ⟨(some 18), .call 38 [(.t 14), (.t 17)], none⟩,
      ⟨(some 11), .mv (.t 18), none⟩,
      ⟨(some 19), .extr (.t 11) 0, none⟩,
      ⟨(some 20), .extr (.t 11) 1, none⟩,
      ⟨(some 9), .mv (.t 19), none⟩,
      ⟨(some 10), .mv (.t 20), none⟩])
    (.seq
     (.seq
      (.reg none [⟨(some 21), .mv (.t 0), none⟩,
        ⟨(some 22), .mv (.t 1), none⟩,
        ⟨(some 23), .bslice [(.int .i64 0)] 2 1 [(0, (.t 21)), (1, (.t 22))], none⟩,
        ⟨(some 24), .call 40 [(.t 23)], none⟩,
        ⟨(some 25), .un .not (.t 24), none⟩,
        ⟨(some 26), .mv (.t 25), none⟩,
        ⟨(some 27), .mv (.t 2), some (26, false)⟩,
        ⟨(some 28), .mv (.t 3), some (26, false)⟩,
        ⟨(some 29), .bslice [(.int .i64 0)] 2 1 [(0, (.t 27)), (1, (.t 28))], some (26, false)⟩,
        ⟨(some 30), .call 40 [(.t 29)], some (26, false)⟩,
        ⟨(some 31), .un .not (.t 30), some (26, false)⟩,
        ⟨(some 32), .pick (.t 26) (.c (.b true)) (.t 31), none⟩])
      (.cond (.t 32)
       (.seq
        (.reg none [⟨(some 33), .mv (.t 10), none⟩,
          ⟨(some 34), .bin .eql (.t 33) (.c (.int .i64 2)), none⟩,
          ⟨(some 35), .mv (.t 34), none⟩,
          ⟨(some 36), .call 23 [], some (35, true)⟩,
          ⟨(some 37), .pick (.t 35) (.t 36) (.c (.b false)), none⟩,
          ⟨(some 8), .mv (.t 37), none⟩])
        .ret)
       .skip))
     (.seq
      (.seq
       (.reg none [⟨(some 38), .mv (.t 0), none⟩,
         ⟨(some 39), .mv (.t 1), none⟩,
         ⟨(some 40), .bin .add (.t 38) (.t 39), none⟩,
         ⟨(some 41), .mv (.t 2), none⟩,
         ⟨(some 42), .mv (.t 3), none⟩,
         ⟨(some 43), .bin .add (.t 41) (.t 42), none⟩,
         ⟨(some 44), .bin .neq (.t 40) (.t 43), none⟩])
       (.cond (.t 44)
        (.seq
         (.reg none [⟨(some 45), .mv (.t 9), none⟩,
           ⟨(some 46), .bin .eql (.t 45) (.c (.int .i64 0)), none⟩,
           ⟨(some 47), .mv (.t 46), none⟩,
           ⟨(some 48), .mv (.t 10), some (47, true)⟩,
           ⟨(some 49), .bin .eql (.t 48) (.c (.int .i64 0)), some (47, true)⟩,
           ⟨(some 50), .pick (.t 47) (.t 49) (.c (.b false)), none⟩,
           ⟨(some 51), .mv (.t 50), none⟩,
           ⟨(some 52), .call 23 [], some (51, true)⟩,
           ⟨(some 53), .pick (.t 51) (.t 52) (.c (.b false)), none⟩,
           ⟨(some 8), .mv (.t 53), none⟩])
         .ret)
        .skip))
      (.seq
       (.reg none [⟨(some 54), .mv (.t 9), none⟩,
         ⟨(some 55), .mv (.t 0), none⟩,
         ⟨(some 56), .mv (.t 1), none⟩,
         ⟨(some 57), .mv (.t 2), none⟩,
         ⟨(some 58), .mv (.t 3), none⟩,
         ⟨(some 59), .mn [(.t 55), (.t 56), (.t 57), (.t 58)], none⟩,
         ⟨(some 60), .bin .add (.c (.int .i64 1)) (.t 59), none⟩,
         ⟨(some 61), .bin .eql (.t 54) (.t 60), none⟩,
         ⟨(some 62), .mv (.t 61), none⟩,
         ⟨(some 63), .mv (.t 10), some (62, true)⟩,
         ⟨(some 64), .bin .eql (.t 63) (.c (.int .i64 0)), some (62, true)⟩,
         ⟨(some 65), .pick (.t 62) (.t 64) (.c (.b false)), none⟩,
         ⟨(some 66), .mv (.t 65), none⟩,
         ⟨(some 67), .call 23 [], some (66, true)⟩,
         ⟨(some 68), .pick (.t 66) (.t 67) (.c (.b false)), none⟩,
         ⟨(some 8), .mv (.t 68), none⟩])
       .ret))))) }
theorem f10P : prepF C Try.f10 = some f10A := by kernel_rfl

/-- congou/congoulaw06.CountsFamilies -/
def f11A : AFunc :=
{ nargs := 1, res := [.t 2], body :=
  (.seq
   (.reg none [⟨(some 2), .mv (.c (.b false)), none⟩])
   (.seq
    (.reg none [⟨(some 6), .mv (.t 0), none⟩,
      ⟨(some 7), .call 20 [(.t 6)], none⟩,
      ⟨(some 8), .call 42 [(.t 7)], none⟩,
      ⟨(some 5), .mv (.t 8), none⟩,
      ⟨(some 9), .extr (.t 5) 0, none⟩,
      ⟨(some 10), .extr (.t 5) 1, none⟩,
      ⟨(some 3), .mv (.t 9), none⟩,
      ⟨(some 4), .mv (.t 10), none⟩])
    (.seq
     (.seq
      (.reg none [⟨(some 11), .mv (.t 0), none⟩,
        ⟨(some 12), .call 22 [(.t 11)], none⟩,
        ⟨(some 13), .un .not (.t 12), none⟩])
      (.cond (.t 13)
       (.seq
        (.reg none [⟨(some 14), .mv (.t 3), none⟩,
          ⟨(some 15), .len (.t 14), none⟩,
          ⟨(some 16), .bin .eql (.t 15) (.c (.int .i64 0)), none⟩,
          ⟨(some 17), .mv (.t 16), none⟩,
          ⟨(some 18), .mv (.t 4), some (17, true)⟩,
          ⟨(some 19), .bin .eql (.t 18) (.c (.int .i64 2)), some (17, true)⟩,
          ⟨(some 20), .pick (.t 17) (.t 19) (.c (.b false)), none⟩,
          ⟨(some 21), .mv (.t 20), none⟩,
          ⟨(some 22), .call 23 [], some (21, true)⟩,
          ⟨(some 23), .pick (.t 21) (.t 22) (.c (.b false)), none⟩,
          ⟨(some 2), .mv (.t 23), none⟩])
        .ret)
       .skip))
     (.seq
      (.reg none [⟨(some 24), .mv (.t 3), none⟩,
        ⟨(some 25), .mv (.t 0), none⟩,
        ⟨(some 26), .call 44 [(.t 25)], none⟩,
        ⟨(some 27), .call 43 [(.t 24), (.t 26)], none⟩,
        ⟨(some 28), .mv (.t 27), none⟩,
        ⟨(some 29), .mv (.t 4), some (28, true)⟩,
        ⟨(some 30), .bin .eql (.t 29) (.c (.int .i64 0)), some (28, true)⟩,
        ⟨(some 31), .pick (.t 28) (.t 30) (.c (.b false)), none⟩,
        ⟨(some 32), .mv (.t 31), none⟩,
        ⟨(some 33), .call 23 [], some (32, true)⟩,
        ⟨(some 34), .pick (.t 32) (.t 33) (.c (.b false)), none⟩,
        ⟨(some 2), .mv (.t 34), none⟩])
      .ret)))) }
theorem f11P : prepF C Try.f11 = some f11A := by kernel_rfl

/-- congou/congoulaw06.CountsHidden -/
def f12A : AFunc :=
{ nargs := 2, res := [.t 4], body :=
  (.seq
   (.reg none [⟨(some 4), .mv (.c (.b false)), none⟩])
   (.seq
    (.reg none [⟨(some 14), .mv (.t 0), none⟩,
      ⟨(some 15), .call 20 [(.t 14)], none⟩,
      ⟨(some 16), .mv (.t 1), none⟩,
      ⟨(some 17), .call 20 [(.t 16)], none⟩,
      ⟨(some 18), .call 45 [(.t 15), (.t 17)], none⟩,
      ⟨(some 13), .mv (.t 18), none⟩,
      ⟨(some 19), .extr (.t 13) 0, none⟩,
      ⟨(some 20), .extr (.t 13) 1, none⟩,
      ⟨(some 5), .mv (.t 19), none⟩,
      ⟨(some 6), .mv (.t 20), none⟩])
    (.seq
     (.reg none [⟨(some 22), .mv (.t 0), none⟩,
       ⟨(some 23), .call 20 [(.t 22)], none⟩,
       ⟨(some 24), .mv (.t 1), none⟩,
       ⟨(some 25), .call 20 [(.t 24)], none⟩,
       ⟨(some 26), .call 46 [(.t 23), (.t 25)], none⟩,
       ⟨(some 21), .mv (.t 26), none⟩,
       ⟨(some 27), .extr (.t 21) 0, none⟩,
       ⟨(some 28), .extr (.t 21) 1, none⟩,
       ⟨(some 7), .mv (.t 27), none⟩,
       ⟨(some 8), .mv (.t 28), none⟩])
     (.seq
      (.seq
       (.reg (some []) [⟨(some 29), .mv (.t 0), none⟩,
         ⟨(some 30), .call 22 [(.t 29)], none⟩,
         ⟨(some 31), .un .not (.t 30), none⟩,
         ⟨(some 32), .mv (.t 31), none⟩,
         ⟨(some 33), .mv (.t 1), some (32, false)⟩,
         ⟨(some 34), .call 22 [(.t 33)], some (32, false)⟩,
         ⟨(some 35), .un .not (.t 34), some (32, false)⟩,
         ⟨(some 36), .pick (.t 32) (.c (.b true)) (.t 35), none⟩,
         ⟨(some 37), .mv (.t 36), none⟩,
         ⟨(some 38), .mv (.t 0), some (37, false)⟩,
         ⟨(some 39), .len (.t 38), some (37, false)⟩,
         ⟨(some 40), .mv (.t 1), some (37, false)⟩,
         ⟨(some 41), .len (.t 40), some (37, false)⟩,
         ⟨(some 42), .bin .neq (.t 39) (.t 41), some (37, false)⟩,
         ⟨(some 43), .pick (.t 37) (.c (.b true)) (.t 42), none⟩,
         ⟨(some 44), .mv (.t 43), none⟩,
         ⟨(some 45), .mv (.t 0), some (44, false)⟩,
         ⟨(some 46), .iaddr 1 (.t 45) (.c (.int .i64 0)), some (44, false)⟩,
         ⟨(some 47), .load none (.t 46), some (44, false)⟩,
         ⟨(some 48), .len (.t 47), some (44, false)⟩,
         ⟨(some 49), .mv (.t 1), some (44, false)⟩,
         ⟨(some 50), .iaddr 1 (.t 49) (.c (.int .i64 0)), some (44, false)⟩,
         ⟨(some 51), .load none (.t 50), some (44, false)⟩,
         ⟨(some 52), .len (.t 51), some (44, false)⟩,
         ⟨(some 53), .bin .neq (.t 48) (.t 52), some (44, false)⟩,
         ⟨(some 54), .pick (.t 44) (.c (.b true)) (.t 53), none⟩])
       (.cond (.t 54)
        (.seq
         (.reg none [⟨(some 55), .mv (.t 5), none⟩,
           ⟨(some 56), .len (.t 55), none⟩,
           ⟨(some 57), .bin .neq (.t 56) (.c (.int .i64 0)), none⟩,
           ⟨(some 58), .mv (.t 57), none⟩,
           ⟨(some 59), .mv (.t 6), some (58, false)⟩,
           ⟨(some 60), .bin .neq (.t 59) (.c (.int .i64 2)), some (58, false)⟩,
           ⟨(some 61), .pick (.t 58) (.c (.b true)) (.t 60), none⟩])
         (.cond (.t 61)
          (.seq
           (.reg none [⟨(some 4), .mv (.c (.b false)), none⟩])
           .ret)
          .skip))
        (.seq
         (.reg none [⟨(some 63), .mv (.t 0), none⟩,
           ⟨(some 64), .mv (.t 1), none⟩,
           ⟨(some 65), .call 47 [(.t 63), (.t 64)], none⟩,
           ⟨(some 62), .mv (.t 65), none⟩,
           ⟨(some 66), .extr (.t 62) 0, none⟩,
           ⟨(some 67), .extr (.t 62) 1, none⟩,
           ⟨(some 9), .mv (.t 66), none⟩,
           ⟨(some 10), .mv (.t 67), none⟩])
         (.seq
          (.reg none [⟨(some 68), .mv (.t 5), none⟩,
            ⟨(some 69), .mv (.t 9), none⟩,
            ⟨(some 70), .call 26 [(.t 68), (.t 69)], none⟩,
            ⟨(some 71), .un .not (.t 70), none⟩,
            ⟨(some 72), .mv (.t 71), none⟩,
            ⟨(some 73), .mv (.t 6), some (72, false)⟩,
            ⟨(some 74), .mv (.t 10), some (72, false)⟩,
            ⟨(some 75), .bin .neq (.t 73) (.t 74), some (72, false)⟩,
            ⟨(some 76), .pick (.t 72) (.c (.b true)) (.t 75), none⟩])
          (.cond (.t 76)
           (.seq
            (.reg none [⟨(some 4), .mv (.c (.b false)), none⟩])
            .ret)
           .skip)))))
      (.seq
       (.seq
        (.reg none [⟨(some 77), .mv (.t 0), none⟩,
          ⟨(some 78), .call 29 [(.t 77)], none⟩,
          ⟨(some 79), .un .not (.t 78), none⟩,
          ⟨(some 80), .mv (.t 79), none⟩,
          ⟨(some 81), .mv (.t 1), some (80, false)⟩,
          ⟨(some 82), .call 29 [(.t 81)], some (80, false)⟩,
          ⟨(some 83), .un .not (.t 82), some (80, false)⟩,
          ⟨(some 84), .pick (.t 80) (.c (.b true)) (.t 83), none⟩])
        (.cond (.t 84)
         (.seq
          (.reg none [⟨(some 85), .mv (.t 7), none⟩,
            ⟨(some 86), .un .not (.t 85), none⟩,
            ⟨(some 87), .mv (.t 86), none⟩,
            ⟨(some 88), .mv (.t 8), some (87, true)⟩,
            ⟨(some 89), .bin .eql (.t 88) (.c (.int .i64 2)), some (87, true)⟩,
            ⟨(some 90), .pick (.t 87) (.t 89) (.c (.b false)), none⟩,
            ⟨(some 91), .mv (.t 90), none⟩,
            ⟨(some 92), .call 23 [], some (91, true)⟩,
            ⟨(some 93), .pick (.t 91) (.t 92) (.c (.b false)), none⟩,
            ⟨(some 4), .mv (.t 93), none⟩])
          .ret)
         .skip))
       (.seq
        (.reg none [⟨(some 95), .mv (.t 0), none⟩,
          ⟨(some 96), .mv (.t 1), none⟩,
          ⟨(some 97), .call 48 [(.t 95), (.t 96)], none⟩,
          ⟨(some 94), .mv (.t 97), none⟩,
          ⟨(some 98), .extr (.t 94) 0, none⟩,
          ⟨(some 99), .extr (.t 94) 1, none⟩,
          ⟨(some 11), .mv (.t 98), none⟩,
          ⟨(some 12), .mv (.t 99), none⟩])
        (.seq
         (.reg none [⟨(some 100), .mv (.t 7), none⟩,
           ⟨(some 101), .mv (.t 11), none⟩,
           ⟨(some 102), .beq false (.t 100) (.t 101), none⟩,
           ⟨(some 103), .mv (.t 102), none⟩,
           ⟨(some 104), .mv (.t 8), some (103, true)⟩,
           ⟨(some 105), .mv (.t 12), some (103, true)⟩,
           ⟨(some 106), .bin .eql (.t 104) (.t 105), some (103, true)⟩,
           ⟨(some 107), .pick (.t 103) (.t 106) (.c (.b false)), none⟩,
           ⟨(some 108), .mv (.t 107), none⟩,
           ⟨(some 109), .call 23 [], some (108, true)⟩,
           ⟨(some 110), .pick (.t 108) (.t 109) (.c (.b false)), none⟩,
           ⟨(some 4), .mv (.t 110), none⟩])
         .ret))))))) }
theorem f12P : prepF C Try.f12 = some f12A := by kernel_rfl

/-- congou/congoulaw06.CountsChances -/
def f13A : AFunc :=
{ nargs := 1, res := [.t 2], body :=
  (.seq
   (.reg none [⟨(some 2), .mv (.c (.b false)), none⟩])
   (.seq
    (.reg none [⟨(some 8), .mv (.t 0), none⟩,
      ⟨(some 9), .call 20 [(.t 8)], none⟩,
      ⟨(some 10), .call 49 [(.t 9)], none⟩,
      ⟨(some 7), .mv (.t 10), none⟩,
      ⟨(some 11), .extr (.t 7) 0, none⟩,
      ⟨(some 12), .extr (.t 7) 1, none⟩,
      ⟨(some 3), .alloc [(.int .i64 0), (.int .i64 0)], none⟩,
      ⟨none, .store 2 (.t 3) (.t 11), none⟩,
      ⟨(some 4), .mv (.t 12), none⟩])
    (.seq
     (.reg none [⟨(some 14), .mv (.t 0), none⟩,
       ⟨(some 15), .call 20 [(.t 14)], none⟩,
       ⟨(some 16), .call 50 [(.t 15)], none⟩,
       ⟨(some 13), .mv (.t 16), none⟩,
       ⟨(some 17), .extr (.t 13) 0, none⟩,
       ⟨(some 18), .extr (.t 13) 1, none⟩,
       ⟨(some 5), .alloc [(.int .i64 0), (.int .i64 0)], none⟩,
       ⟨none, .store 2 (.t 5) (.t 17), none⟩,
       ⟨(some 6), .mv (.t 18), none⟩])
     (.seq
      (.seq
       (.reg none [⟨(some 19), .mv (.t 0), none⟩,
         ⟨(some 20), .call 22 [(.t 19)], none⟩,
         ⟨(some 21), .un .not (.t 20), none⟩])
       (.cond (.t 21)
        (.seq
         (.reg none [⟨(some 22), .load (some 2) (.t 3), none⟩,
           ⟨(some 23), .call 30 [(.t 22)], none⟩,
           ⟨(some 24), .mv (.t 23), none⟩,
           ⟨(some 25), .load (some 2) (.t 5), some (24, true)⟩,
           ⟨(some 26), .call 30 [(.t 25)], some (24, true)⟩,
           ⟨(some 27), .pick (.t 24) (.t 26) (.c (.b false)), none⟩,
           ⟨(some 28), .mv (.t 27), none⟩,
           ⟨(some 29), .mv (.t 4), some (28, true)⟩,
           ⟨(some 30), .bin .eql (.t 29) (.c (.int .i64 2)), some (28, true)⟩,
           ⟨(some 31), .pick (.t 28) (.t 30) (.c (.b false)), none⟩,
           ⟨(some 32), .mv (.t 31), none⟩,
           ⟨(some 33), .mv (.t 6), some (32, true)⟩,
           ⟨(some 34), .bin .eql (.t 33) (.c (.int .i64 2)), some (32, true)⟩,
           ⟨(some 35), .pick (.t 32) (.t 34) (.c (.b false)), none⟩,
           ⟨(some 36), .mv (.t 35), none⟩,
           ⟨(some 37), .call 23 [], some (36, true)⟩,
           ⟨(some 38), .pick (.t 36) (.t 37) (.c (.b false)), none⟩,
           ⟨(some 2), .mv (.t 38), none⟩])
         .ret)
        .skip))
      (.seq
       (.reg (some []) [⟨(some 39), .load (some 2) (.t 3), none⟩,
         ⟨(some 40), .mv (.t 0), none⟩,
         ⟨(some 41), .call 51 [(.t 40)], none⟩,
         ⟨(some 42), .aeq false 2 (.t 39) (.t 41), none⟩,
         ⟨(some 43), .mv (.t 42), none⟩,
         ⟨(some 44), .load (some 2) (.t 5), some (43, true)⟩,
         ⟨(some 45), .mv (.t 0), some (43, true)⟩,
         ⟨(some 46), .call 52 [(.t 45)], some (43, true)⟩,
         ⟨(some 47), .aeq false 2 (.t 44) (.t 46), some (43, true)⟩,
         ⟨(some 48), .pick (.t 43) (.t 47) (.c (.b false)), none⟩,
         ⟨(some 49), .mv (.t 48), none⟩,
         ⟨(some 50), .mv (.t 4), some (49, true)⟩,
         ⟨(some 51), .bin .eql (.t 50) (.c (.int .i64 0)), some (49, true)⟩,
         ⟨(some 52), .pick (.t 49) (.t 51) (.c (.b false)), none⟩,
         ⟨(some 53), .mv (.t 52), none⟩,
         ⟨(some 54), .mv (.t 6), some (53, true)⟩,
         ⟨(some 55), .bin .eql (.t 54) (.c (.int .i64 0)), some (53, true)⟩,
         ⟨(some 56), .pick (.t 53) (.t 55) (.c (.b false)), none⟩,
         ⟨(some 57), .mv (.t 56), none⟩,
         ⟨(some 58), .call 23 [], some (57, true)⟩,
         ⟨(some 59), .pick (.t 57) (.t 58) (.c (.b false)), none⟩,
         ⟨(some 2), .mv (.t 59), none⟩])
       .ret))))) }
theorem f13P : prepF C Try.f13 = some f13A := by kernel_rfl

/-- congou/congoulaw06.CountsAll -/
def f14A : AFunc :=
{ nargs := 1, res := [.t 2], body :=
  (.seq
   (.reg none [⟨(some 2), .mv (.c (.b false)), none⟩])
   (.seq
    (.reg none [⟨(some 25), .mv (.t 0), none⟩,
      ⟨(some 26), .call 20 [(.t 25)], none⟩,
      ⟨(some 27), .call 42 [(.t 26)], none⟩,
      ⟨(some 24), .mv (.t 27), none⟩,
      ⟨(some 28), .extr (.t 24) 0, none⟩,
      ⟨(some 29), .extr (.t 24) 1, none⟩,
      ⟨(some 3), .mv (.t 28), none⟩,
      ⟨(some 4), .mv (.t 29), none⟩])
    (.seq
     (.seq
      (.reg none [⟨(some 30), .mv (.t 4), none⟩,
        ⟨(some 31), .bin .neq (.t 30) (.c (.int .i64 0)), none⟩,
        ⟨(some 32), .mv (.t 31), none⟩,
        ⟨(some 33), .mv (.t 0), some (32, false)⟩,
        ⟨(some 34), .call 22 [(.t 33)], some (32, false)⟩,
        ⟨(some 35), .un .not (.t 34), some (32, false)⟩,
        ⟨(some 36), .pick (.t 32) (.c (.b true)) (.t 35), none⟩])
      (.cond (.t 36)
       (.seq
        (.reg none [⟨(some 37), .mv (.t 4), none⟩,
          ⟨(some 38), .bin .eql (.t 37) (.c (.int .i64 2)), none⟩,
          ⟨(some 39), .mv (.t 38), none⟩,
          ⟨(some 40), .call 23 [], some (39, true)⟩,
          ⟨(some 41), .pick (.t 39) (.t 40) (.c (.b false)), none⟩,
          ⟨(some 2), .mv (.t 41), none⟩])
        .ret)
       .skip))
     (.seq
      (.reg none [⟨(some 43), .mv (.t 0), none⟩,
        ⟨(some 44), .call 20 [(.t 43)], none⟩,
        ⟨(some 45), .call 49 [(.t 44)], none⟩,
        ⟨(some 42), .mv (.t 45), none⟩,
        ⟨(some 46), .extr (.t 42) 0, none⟩,
        ⟨(some 47), .extr (.t 42) 1, none⟩,
        ⟨(some 5), .alloc [(.int .i64 0), (.int .i64 0)], none⟩,
        ⟨none, .store 2 (.t 5) (.t 46), none⟩,
        ⟨(some 6), .mv (.t 47), none⟩])
      (.seq
       (.reg none [⟨(some 49), .mv (.t 0), none⟩,
         ⟨(some 50), .call 20 [(.t 49)], none⟩,
         ⟨(some 51), .call 50 [(.t 50)], none⟩,
         ⟨(some 48), .mv (.t 51), none⟩,
         ⟨(some 52), .extr (.t 48) 0, none⟩,
         ⟨(some 53), .extr (.t 48) 1, none⟩,
         ⟨(some 7), .alloc [(.int .i64 0), (.int .i64 0)], none⟩,
         ⟨none, .store 2 (.t 7) (.t 52), none⟩,
         ⟨(some 8), .mv (.t 53), none⟩])
       (.seq
        (.seq
         (.reg none [⟨(some 54), .mv (.t 6), none⟩,
           ⟨(some 55), .bin .neq (.t 54) (.c (.int .i64 0)), none⟩,
           ⟨(some 56), .mv (.t 55), none⟩,
           ⟨(some 57), .mv (.t 8), some (56, false)⟩,
           ⟨(some 58), .bin .neq (.t 57) (.c (.int .i64 0)), some (56, false)⟩,
           ⟨(some 59), .pick (.t 56) (.c (.b true)) (.t 58), none⟩,
           ⟨(some 60), .mv (.t 59), none⟩,
           ⟨(some 61), .load (some 2) (.t 5), some (60, false)⟩,
           ⟨(some 62), .call 53 [(.t 61)], some (60, false)⟩,
           ⟨(some 63), .un .not (.t 62), some (60, false)⟩,
           ⟨(some 64), .pick (.t 60) (.c (.b true)) (.t 63), none⟩,
           ⟨(some 65), .mv (.t 64), none⟩,
           ⟨(some 66), .load (some 2) (.t 7), some (65, false)⟩,
           ⟨(some 67), .call 53 [(.t 66)], some (65, false)⟩,
           ⟨(some 68), .un .not (.t 67), some (65, false)⟩,
           ⟨(some 69), .pick (.t 65) (.c (.b true)) (.t 68), none⟩,
           ⟨(some 70), .mv (.t 69), none⟩,
           ⟨(some 71), .faddr 0 (.t 5), some (70, false)⟩,
           ⟨(some 72), .load none (.t 71), some (70, false)⟩,
           ⟨(some 73), .bin .lss (.t 72) (.c (.int .i64 1)), some (70, false)⟩,
           ⟨(some 74), .pick (.t 70) (.c (.b true)) (.t 73), none⟩,
           ⟨(some 75), .mv (.t 74), none⟩,
           ⟨(some 76), .mv (.t 3), some (75, false)⟩,
           ⟨(some 77), .len (.t 76), some (75, false)⟩,
           ⟨(some 78), .bin .gtr (.t 77) (.c (.int .i64 100000)), some (75, false)⟩,
           ⟨(some 79), .pick (.t 75) (.c (.b true)) (.t 78), none⟩])
         (.cond (.t 79)
          (.seq
           (.reg none [⟨(some 2), .mv (.c (.b false)), none⟩])
           .ret)
          .skip))
        (.seq
         (.reg none [⟨(some 81), .mv (.t 0), none⟩,
           ⟨(some 82), .call 24 [(.t 81)], none⟩,
           ⟨(some 80), .mv (.t 82), none⟩,
           ⟨(some 83), .extr (.t 80) 0, none⟩,
           ⟨(some 84), .extr (.t 80) 1, none⟩,
           ⟨(some 9), .mv (.t 83), none⟩,
           ⟨(some 10), .mv (.t 84), none⟩])
         (.seq
          (.reg none [⟨(some 11), .mv (.c (.int .i64 1)), none⟩,
            ⟨(some 12), .mv (.c (.int .i64 0)), none⟩])
          (.seq
           (.seq
            (.reg none [⟨(some 85), .mv (.t 10), none⟩,
              ⟨(some 86), .len (.t 85), none⟩,
              ⟨(some 87), .mv (.c (.int .i64 0)), none⟩])
            (.block 0
             (.loop
              (.seq
               (.reg none [⟨(some 88), .bin .lss (.t 87) (.t 86), none⟩])
               (.seq
                (.cond (.t 88)
                 .skip
                 (.exit 0))
                (.seq
                 (.block 1
                  (.seq
                   (.reg none [⟨(some 89), .iaddr 1 (.t 85) (.t 87), none⟩,
                     ⟨(some 90), .load none (.t 89), none⟩,
                     ⟨(some 14), .mv (.t 90), none⟩])
                   (.seq
                    (.reg none [⟨(some 91), .mv (.t 14), none⟩,
                      ⟨(some 92), .mv (.c (.int .i64 0)), none⟩])
                    (.block 2
                     (.loop
                      (.seq
                       (.reg none [⟨(some 93), .bin .lss (.t 92) (.t 91), none⟩])
                       (.seq
                        (.cond (.t 93)
                         .skip
                         (.exit 2))
                        (.seq
                         (.block 3
                          (.seq
                           (.reg none [⟨(some 94), .mv (.t 92), none⟩,
                             ⟨(some 15), .mv (.t 94), none⟩])
                           (.seq
                            (.reg none [⟨(some 95), .mv (.t 12), none⟩,
                              ⟨(some 96), .bin .add (.t 95) (.c (.int .i64 1)), none⟩,
                              ⟨(some 12), .mv (.t 96), none⟩])
                            (.reg none [⟨(some 97), .mv (.t 11), none⟩,
                              ⟨(some 98), .mv (.t 12), none⟩,
                              ⟨(some 99), .bin .mul (.t 97) (.t 98), none⟩,
                              ⟨(some 100), .mv (.t 15), none⟩,
                              ⟨(some 101), .bin .add (.t 100) (.c (.int .i64 1)), none⟩,
                              ⟨(some 102), .bin .quo (.t 99) (.t 101), none⟩,
                              ⟨(some 11), .mv (.t 102), none⟩]))))
                         (.reg none [⟨(some 103), .bin .add (.t 92) (.c (.int .i64 1)), none⟩,
                           ⟨(some 92), .mv (.t 103), none⟩])))))))))
                 (.reg none [⟨(some 104), .bin .add (.t 87) (.c (.int .i64 1)), none⟩,
                   ⟨(some 87), .mv (.t 104), none⟩])))))))
           (.seq
            (.reg none [⟨(some 16), .mv (.c (.int .i64 0)), none⟩,
              ⟨(some 17), .mv (.c (.int .i64 0)), none⟩,
              ⟨(some 18), .mv (.c (.b true)), none⟩])
            (.seq
             (.seq
              (.reg none [⟨(some 105), .mv (.t 3), none⟩,
                ⟨(some 106), .len (.t 105), none⟩,
                ⟨(some 107), .mv (.c (.int .i64 0)), none⟩])
              (.block 4
               (.loop
                (.seq
                 (.reg none [⟨(some 108), .bin .lss (.t 107) (.t 106), none⟩])
                 (.seq
                  (.cond (.t 108)
                   .skip
                   (.exit 4))
                  (.seq
                   (.block 5
                    (.seq
                     (.reg none [⟨(some 109), .iaddr 1 (.t 105) (.t 107), none⟩,
                       ⟨(some 110), .load none (.t 109), none⟩,
                       ⟨(some 20), .mv (.t 110), none⟩])
                     (.seq
                      (.reg none [⟨(some 112), .mv (.t 20), none⟩,
                        ⟨(some 113), .call 20 [(.t 112)], none⟩,
                        ⟨(some 114), .call 49 [(.t 113)], none⟩,
                        ⟨(some 111), .mv (.t 114), none⟩,
                        ⟨(some 115), .extr (.t 111) 0, none⟩,
                        ⟨(some 116), .extr (.t 111) 1, none⟩,
                        ⟨(some 21), .alloc [(.int .i64 0), (.int .i64 0)], none⟩,
                        ⟨none, .store 2 (.t 21) (.t 115), none⟩,
                        ⟨(some 22), .mv (.t 116), none⟩])
                      (.seq
                       (.seq
                        (.reg none [⟨(some 117), .mv (.t 22), none⟩,
                          ⟨(some 118), .bin .neq (.t 117) (.c (.int .i64 0)), none⟩,
                          ⟨(some 119), .mv (.t 118), none⟩,
                          ⟨(some 120), .load (some 2) (.t 21), some (119, false)⟩,
                          ⟨(some 121), .call 53 [(.t 120)], some (119, false)⟩,
                          ⟨(some 122), .un .not (.t 121), some (119, false)⟩,
                          ⟨(some 123), .pick (.t 119) (.c (.b true)) (.t 122), none⟩,
                          ⟨(some 124), .mv (.t 123), none⟩,
                          ⟨(some 125), .mv (.t 11), some (124, false)⟩,
                          ⟨(some 126), .faddr 1 (.t 21), some (124, false)⟩,
                          ⟨(some 127), .load none (.t 126), some (124, false)⟩,
                          ⟨(some 128), .bin .rem (.t 125) (.t 127), some (124, false)⟩,
                          ⟨(some 129), .bin .neq (.t 128) (.c (.int .i64 0)), some (124, false)⟩,
                          ⟨(some 130), .pick (.t 124) (.c (.b true)) (.t 129), none⟩])
                        (.cond (.t 130)
                         (.seq
                          (.reg none [⟨(some 2), .mv (.c (.b false)), none⟩])
                          .ret)
                         .skip))
                       (.seq
                        (.reg (some []) [⟨(some 131), .faddr 0 (.t 21), none⟩,
                          ⟨(some 132), .load none (.t 131), none⟩,
                          ⟨(some 133), .mv (.t 11), none⟩,
                          ⟨(some 134), .faddr 1 (.t 21), none⟩,
                          ⟨(some 135), .load none (.t 134), none⟩,
                          ⟨(some 136), .bin .quo (.t 133) (.t 135), none⟩,
                          ⟨(some 137), .bin .mul (.t 132) (.t 136), none⟩,
                          ⟨(some 23), .mv (.t 137), none⟩])
                        (.seq
                         (.reg none [⟨(some 138), .mv (.t 16), none⟩,
                           ⟨(some 139), .mv (.t 23), none⟩,
                           ⟨(some 140), .bin .add (.t 138) (.t 139), none⟩,
                           ⟨(some 16), .mv (.t 140), none⟩])
                         (.seq
                          (.reg none [⟨(some 141), .load (some 2) (.t 5), none⟩,
                            ⟨(some 142), .load (some 2) (.t 21), none⟩,
                            ⟨(some 143), .call 54 [(.t 141), (.t 142)], none⟩])
                          (.cond (.t 143)
                           (.reg none [⟨(some 18), .mv (.c (.b false)), none⟩])
                           (.reg none [⟨(some 144), .mv (.t 17), none⟩,
                             ⟨(some 145), .mv (.t 23), none⟩,
                             ⟨(some 146), .bin .add (.t 144) (.t 145), none⟩,
                             ⟨(some 17), .mv (.t 146), none⟩])))))))))
                   (.reg none [⟨(some 147), .bin .add (.t 107) (.c (.int .i64 1)), none⟩,
                     ⟨(some 107), .mv (.t 147), none⟩])))))))
             (.seq
              (.reg (some []) [⟨(some 148), .mv (.t 16), none⟩,
                ⟨(some 149), .mv (.t 11), none⟩,
                ⟨(some 150), .bin .eql (.t 148) (.t 149), none⟩,
                ⟨(some 151), .mv (.t 150), none⟩,
                ⟨(some 152), .load (some 2) (.t 7), some (151, true)⟩,
                ⟨(some 153), .mv (.t 17), some (151, true)⟩,
                ⟨(some 154), .mv (.t 11), some (151, true)⟩,
                ⟨(some 155), .call 55 [(.t 153), (.t 154)], some (151, true)⟩,
                ⟨(some 156), .aeq false 2 (.t 152) (.t 155), some (151, true)⟩,
                ⟨(some 157), .pick (.t 151) (.t 156) (.c (.b false)), none⟩,
                ⟨(some 158), .mv (.t 157), none⟩,
                ⟨(some 159), .mv (.t 18), some (158, true)⟩,
                ⟨(some 160), .un .not (.t 159), some (158, true)⟩,
                ⟨(some 161), .mv (.t 160), some (158, true)⟩,
                ⟨(some 162), .load (some 2) (.t 7), some (161, false)⟩,
                ⟨(some 163), .build [(.int .i64 0), (.int .i64 0)] [(0, 1, (.c (.int .i64 1))), (1, 1, (.c (.int .i64 1)))], some (161, false)⟩,
                ⟨(some 164), .aeq false 2 (.t 162) (.t 163), some (161, false)⟩,
                ⟨(some 165), .pick (.t 161) (.c (.b true)) (.t 164), some (158, true)⟩,
                ⟨(some 166), .pick (.t 158) (.t 165) (.c (.b false)), none⟩,
                ⟨(some 167), .mv (.t 166), none⟩,
                ⟨(some 168), .load (some 2) (.t 7), some (167, true)⟩,
                ⟨(some 169), .load (some 2) (.t 5), some (167, true)⟩,
                ⟨(some 170), .call 54 [(.t 168), (.t 169)], some (167, true)⟩,
                ⟨(some 171), .un .not (.t 170), some (167, true)⟩,
                ⟨(some 172), .pick (.t 167) (.t 171) (.c (.b false)), none⟩,
                ⟨(some 173), .mv (.t 172), none⟩,
                ⟨(some 174), .call 23 [], some (173, true)⟩,
                ⟨(some 175), .pick (.t 173) (.t 174) (.c (.b false)), none⟩,
                ⟨(some 2), .mv (.t 175), none⟩])
              .ret)))))))))))) }
theorem f14P : prepF C Try.f14 = some f14A := by kernel_rfl

/-- congou/congoulaw06.CountsSame -/
def f15A : AFunc :=
{ nargs := 2, res := [.t 4], body :=
  (.seq
   (.reg none [⟨(some 4), .mv (.c (.b false)), none⟩])
   (.seq
    (.reg none [⟨(some 17), .mv (.t 0), none⟩,
      ⟨(some 18), .call 20 [(.t 17)], none⟩,
      ⟨(some 19), .call 42 [(.t 18)], none⟩,
      ⟨(some 16), .mv (.t 19), none⟩,
      ⟨(some 20), .extr (.t 16) 0, none⟩,
      ⟨(some 21), .extr (.t 16) 1, none⟩,
      ⟨(some 5), .mv (.t 20), none⟩,
      ⟨(some 6), .mv (.t 21), none⟩])
    (.seq
     (.seq
      (.reg none [⟨(some 22), .mv (.t 6), none⟩,
        ⟨(some 23), .bin .neq (.t 22) (.c (.int .i64 0)), none⟩,
        ⟨(some 24), .mv (.t 23), none⟩,
        ⟨(some 25), .mv (.t 0), some (24, false)⟩,
        ⟨(some 26), .call 22 [(.t 25)], some (24, false)⟩,
        ⟨(some 27), .un .not (.t 26), some (24, false)⟩,
        ⟨(some 28), .pick (.t 24) (.c (.b true)) (.t 27), none⟩])
      (.cond (.t 28)
       (.seq
        (.reg none [⟨(some 29), .mv (.t 6), none⟩,
          ⟨(some 30), .bin .eql (.t 29) (.c (.int .i64 2)), none⟩,
          ⟨(some 31), .mv (.t 30), none⟩,
          ⟨(some 32), .call 23 [], some (31, true)⟩,
          ⟨(some 33), .pick (.t 31) (.t 32) (.c (.b false)), none⟩,
          ⟨(some 4), .mv (.t 33), none⟩])
        .ret)
       .skip))
     (.seq
      (.reg none [⟨(some 35), .mv (.t 0), none⟩,
        ⟨(some 36), .call 24 [(.t 35)], none⟩,
        ⟨(some 34), .mv (.t 36), none⟩,
        ⟨(some 37), .extr (.t 34) 0, none⟩,
        ⟨(some 38), .extr (.t 34) 1, none⟩,
        ⟨(some 7), .mv (.t 37), none⟩,
        ⟨(some 8), .mv (.t 38), none⟩])
      (.seq
       (.reg none [⟨(some 40), .mv (.t 7), none⟩,
         ⟨(some 41), .call 56 [(.t 40)], none⟩,
         ⟨(some 42), .mv (.t 8), none⟩,
         ⟨(some 43), .call 56 [(.t 42)], none⟩,
         ⟨(some 44), .call 38 [(.t 41), (.t 43)], none⟩,
         ⟨(some 39), .mv (.t 44), none⟩,
         ⟨(some 45), .extr (.t 39) 0, none⟩,
         ⟨(some 46), .extr (.t 39) 1, none⟩,
         ⟨(some 9), .mv (.t 45), none⟩,
         ⟨(some 6), .mv (.t 46), none⟩])
       (.seq
        (.reg none [⟨(some 10), .mv (.c (.b false)), none⟩])
        (.seq
         (.seq
          (.reg none [⟨(some 47), .mv (.t 5), none⟩,
            ⟨(some 48), .len (.t 47), none⟩,
            ⟨(some 49), .mv (.c (.int .i64 0)), none⟩])
          (.block 0
           (.loop
            (.seq
             (.reg none [⟨(some 50), .bin .lss (.t 49) (.t 48), none⟩])
             (.seq
              (.cond (.t 50)
               .skip
               (.exit 0))
              (.seq
               (.block 1
                (.seq
                 (.reg none [⟨(some 51), .mv (.t 49), none⟩,
                   ⟨(some 52), .iaddr 1 (.t 47) (.t 49), none⟩,
                   ⟨(some 53), .load none (.t 52), none⟩,
                   ⟨(some 11), .mv (.t 51), none⟩,
                   ⟨(some 12), .mv (.t 53), none⟩])
                 (.seq
                  (.seq
                   (.reg none [⟨(some 54), .mv (.t 12), none⟩,
                     ⟨(some 55), .call 22 [(.t 54)], none⟩,
                     ⟨(some 56), .un .not (.t 55), none⟩])
                   (.cond (.t 56)
                    (.seq
                     (.reg none [⟨(some 4), .mv (.c (.b false)), none⟩])
                     .ret)
                    .skip))
                  (.seq
                   (.reg none [⟨(some 58), .mv (.t 12), none⟩,
                     ⟨(some 59), .call 24 [(.t 58)], none⟩,
                     ⟨(some 57), .mv (.t 59), none⟩,
                     ⟨(some 60), .extr (.t 57) 0, none⟩,
                     ⟨(some 61), .extr (.t 57) 1, none⟩,
                     ⟨(some 13), .mv (.t 60), none⟩,
                     ⟨(some 14), .mv (.t 61), none⟩])
                   (.seq
                    (.seq
                     (.reg none [⟨(some 62), .mv (.t 13), none⟩,
                       ⟨(some 63), .mv (.t 7), none⟩,
                       ⟨(some 64), .call 25 [(.t 62), (.t 63)], none⟩,
                       ⟨(some 65), .un .not (.t 64), none⟩,
                       ⟨(some 66), .mv (.t 65), none⟩,
                       ⟨(some 67), .mv (.t 14), some (66, false)⟩,
                       ⟨(some 68), .mv (.t 8), some (66, false)⟩,
                       ⟨(some 69), .call 25 [(.t 67), (.t 68)], some (66, false)⟩,
                       ⟨(some 70), .un .not (.t 69), some (66, false)⟩,
                       ⟨(some 71), .pick (.t 66) (.c (.b true)) (.t 70), none⟩,
                       ⟨(some 72), .mv (.t 71), none⟩,
                       ⟨(some 73), .mv (.t 11), some (72, false)⟩,
                       ⟨(some 74), .bin .gtr (.t 73) (.c (.int .i64 0)), some (72, false)⟩,
                       ⟨(some 75), .mv (.t 74), some (72, false)⟩,
                       ⟨(some 76), .mv (.t 5), some (75, true)⟩,
                       ⟨(some 77), .mv (.t 11), some (75, true)⟩,
                       ⟨(some 78), .bin .sub (.t 77) (.c (.int .i64 1)), some (75, true)⟩,
                       ⟨(some 79), .iaddr 1 (.t 76) (.t 78), some (75, true)⟩,
                       ⟨(some 80), .load none (.t 79), some (75, true)⟩,
                       ⟨(some 81), .mv (.t 12), some (75, true)⟩,
                       ⟨(some 82), .call 57 [(.t 80), (.t 81), (.c (.fn 58 [] []))], some (75, true)⟩,
                       ⟨(some 83), .bin .geq (.t 82) (.c (.int .i64 0)), some (75, true)⟩,
                       ⟨(some 84), .pick (.t 75) (.t 83) (.c (.b false)), some (72, false)⟩,
                       ⟨(some 85), .pick (.t 72) (.c (.b true)) (.t 84), none⟩])
                     (.cond (.t 85)
                      (.seq
                       (.reg none [⟨(some 4), .mv (.c (.b false)), none⟩])
                       .ret)
                      .skip))
                    (.reg none [⟨(some 86), .mv (.t 10), none⟩,
                      ⟨(some 87), .mv (.t 86), none⟩,
                      ⟨(some 88), .mv (.t 0), some (87, false)⟩,
                      ⟨(some 89), .mv (.t 12), some (87, false)⟩,
                      ⟨(some 90), .call 26 [(.t 88), (.t 89)], some (87, false)⟩,
                      ⟨(some 91), .pick (.t 87) (.c (.b true)) (.t 90), none⟩,
                      ⟨(some 10), .mv (.t 91), none⟩]))))))
               (.reg none [⟨(some 92), .bin .add (.t 49) (.c (.int .i64 1)), none⟩,
                 ⟨(some 49), .mv (.t 92), none⟩])))))))
         (.seq
          (.seq
           (.reg none [⟨(some 93), .mv (.t 6), none⟩,
             ⟨(some 94), .bin .neq (.t 93) (.c (.int .i64 0)), none⟩,
             ⟨(some 95), .mv (.t 94), none⟩,
             ⟨(some 96), .mv (.t 9), some (95, false)⟩,
             ⟨(some 97), .mv (.t 5), some (95, false)⟩,
             ⟨(some 98), .len (.t 97), some (95, false)⟩,
             ⟨(some 99), .bin .neq (.t 96) (.t 98), some (95, false)⟩,
             ⟨(some 100), .pick (.t 95) (.c (.b true)) (.t 99), none⟩,
             ⟨(some 101), .mv (.t 100), none⟩,
             ⟨(some 102), .mv (.t 10), some (101, false)⟩,
             ⟨(some 103), .un .not (.t 102), some (101, false)⟩,
             ⟨(some 104), .pick (.t 101) (.c (.b true)) (.t 103), none⟩])
           (.cond (.t 104)
            (.seq
             (.reg none [⟨(some 4), .mv (.c (.b false)), none⟩])
             .ret)
            .skip))
          (.seq
           (.reg none [⟨(some 106), .mv (.t 5), none⟩,
             ⟨(some 107), .mv (.t 1), none⟩,
             ⟨(some 108), .conv .u64 (.t 107), none⟩,
             ⟨(some 109), .mv (.t 5), none⟩,
             ⟨(some 110), .len (.t 109), none⟩,
             ⟨(some 111), .conv .u64 (.t 110), none⟩,
             ⟨(some 112), .bin .rem (.t 108) (.t 111), none⟩,
             ⟨(some 113), .conv .i64 (.t 112), none⟩,
             ⟨(some 114), .iaddr 1 (.t 106) (.t 113), none⟩,
             ⟨(some 115), .load none (.t 114), none⟩,
             ⟨(some 116), .call 20 [(.t 115)], none⟩,
             ⟨(some 117), .call 42 [(.t 116)], none⟩,
             ⟨(some 105), .mv (.t 117), none⟩,
             ⟨(some 118), .extr (.t 105) 0, none⟩,
             ⟨(some 119), .extr (.t 105) 1, none⟩,
             ⟨(some 15), .mv (.t 118), none⟩,
             ⟨(some 6), .mv (.t 119), none⟩])
           (.seq
            (.reg none [⟨(some 120), .mv (.t 6), none⟩,
              ⟨(some 121), .bin .eql (.t 120) (.c (.int .i64 0)), none⟩,
              ⟨(some 122), .mv (.t 121), none⟩,
              ⟨(some 123), .mv (.t 5), some (122, true)⟩,
              ⟨(some 124), .mv (.t 15), some (122, true)⟩,
              ⟨(some 125), .call 43 [(.t 123), (.t 124)], some (122, true)⟩,
              ⟨(some 126), .pick (.t 122) (.t 125) (.c (.b false)), none⟩,
              ⟨(some 127), .mv (.t 126), none⟩,
              ⟨(some 128), .call 23 [], some (127, true)⟩,
              ⟨(some 129), .pick (.t 127) (.t 128) (.c (.b false)), none⟩,
              ⟨(some 4), .mv (.t 129), none⟩])
            .ret)))))))))) }
theorem f15P : prepF C Try.f15 = some f15A := by kernel_rfl

/-- congou/congoulaw06.CountsTurned -/
def f16A : AFunc :=
{ nargs := 3, res := [.t 6], body :=
  (.seq
   (.reg none [⟨(some 6), .mv (.c (.b false)), none⟩])
   (.seq
    (.reg none [⟨(some 35), .mv (.t 0), none⟩,
      ⟨(some 36), .call 20 [(.t 35)], none⟩,
      ⟨(some 37), .call 21 [(.t 36)], none⟩,
      ⟨(some 34), .mv (.t 37), none⟩,
      ⟨(some 38), .extr (.t 34) 0, none⟩,
      ⟨(some 39), .extr (.t 34) 1, none⟩,
      ⟨(some 7), .mv (.t 38), none⟩,
      ⟨(some 8), .mv (.t 39), none⟩])
    (.seq
     (.seq
      (.reg none [⟨(some 40), .mv (.t 8), none⟩,
        ⟨(some 41), .bin .neq (.t 40) (.c (.int .i64 0)), none⟩,
        ⟨(some 42), .mv (.t 41), none⟩,
        ⟨(some 43), .mv (.t 0), some (42, false)⟩,
        ⟨(some 44), .call 22 [(.t 43)], some (42, false)⟩,
        ⟨(some 45), .un .not (.t 44), some (42, false)⟩,
        ⟨(some 46), .pick (.t 42) (.c (.b true)) (.t 45), none⟩])
      (.cond (.t 46)
       (.seq
        (.reg none [⟨(some 47), .mv (.t 8), none⟩,
          ⟨(some 48), .bin .eql (.t 47) (.c (.int .i64 2)), none⟩,
          ⟨(some 49), .mv (.t 48), none⟩,
          ⟨(some 50), .call 23 [], some (49, true)⟩,
          ⟨(some 51), .pick (.t 49) (.t 50) (.c (.b false)), none⟩,
          ⟨(some 6), .mv (.t 51), none⟩])
        .ret)
       .skip))
     (.seq
      (.reg none [⟨(some 53), .mv (.t 7), none⟩,
        ⟨(some 54), .call 20 [(.t 53)], none⟩,
        ⟨(some 55), .call 21 [(.t 54)], none⟩,
        ⟨(some 52), .mv (.t 55), none⟩,
        ⟨(some 56), .extr (.t 52) 0, none⟩,
        ⟨(some 57), .extr (.t 52) 1, none⟩,
        ⟨(some 9), .mv (.t 56), none⟩,
        ⟨(some 8), .mv (.t 57), none⟩])
      (.seq
       (.seq
        (.reg none [⟨(some 58), .mv (.t 8), none⟩,
          ⟨(some 59), .bin .neq (.t 58) (.c (.int .i64 0)), none⟩,
          ⟨(some 60), .mv (.t 59), none⟩,
          ⟨(some 61), .mv (.t 9), some (60, false)⟩,
          ⟨(some 62), .mv (.t 0), some (60, false)⟩,
          ⟨(some 63), .call 26 [(.t 61), (.t 62)], some (60, false)⟩,
          ⟨(some 64), .un .not (.t 63), some (60, false)⟩,
          ⟨(some 65), .pick (.t 60) (.c (.b true)) (.t 64), none⟩,
          ⟨(some 66), .mv (.t 65), none⟩,
          ⟨(some 67), .mv (.t 7), some (66, false)⟩,
          ⟨(some 68), .call 22 [(.t 67)], some (66, false)⟩,
          ⟨(some 69), .un .not (.t 68), some (66, false)⟩,
          ⟨(some 70), .pick (.t 66) (.c (.b true)) (.t 69), none⟩])
        (.cond (.t 70)
         (.seq
          (.reg none [⟨(some 6), .mv (.c (.b false)), none⟩])
          .ret)
         .skip))
       (.seq
        (.reg none [⟨(some 71), .mv (.t 0), none⟩,
          ⟨(some 72), .call 20 [(.t 71)], none⟩,
          ⟨(some 73), .mv (.t 0), none⟩,
          ⟨(some 74), .call 20 [(.t 73)], none⟩,
          ⟨(some 10), .mv (.t 72), none⟩,
          ⟨(some 11), .mv (.t 74), none⟩])
        (.seq
         (.reg (some []) [⟨(some 75), .mv (.t 0), none⟩,
           ⟨(some 76), .len (.t 75), none⟩,
           ⟨(some 77), .conv .u64 (.t 76), none⟩,
           ⟨(some 78), .mv (.t 0), none⟩,
           ⟨(some 79), .iaddr 1 (.t 78) (.c (.int .i64 0)), none⟩,
           ⟨(some 80), .load none (.t 79), none⟩,
           ⟨(some 81), .len (.t 80), none⟩,
           ⟨(some 82), .conv .u64 (.t 81), none⟩,
           ⟨(some 12), .mv (.t 77), none⟩,
           ⟨(some 13), .mv (.t 82), none⟩])
         (.seq
          (.reg (some []) [⟨(some 83), .mv (.t 1), none⟩,
            ⟨(some 84), .conv .u64 (.t 83), none⟩,
            ⟨(some 85), .mv (.t 12), none⟩,
            ⟨(some 86), .bin .rem (.t 84) (.t 85), none⟩,
            ⟨(some 87), .mv (.t 2), none⟩,
            ⟨(some 88), .conv .u64 (.t 87), none⟩,
            ⟨(some 89), .mv (.t 12), none⟩,
            ⟨(some 90), .bin .rem (.t 88) (.t 89), none⟩,
            ⟨(some 14), .mv (.t 86), none⟩,
            ⟨(some 15), .mv (.t 90), none⟩])
          (.seq
           (.reg none [⟨(some 91), .mv (.t 10), none⟩,
             ⟨(some 92), .mv (.t 14), none⟩,
             ⟨(some 93), .iaddr 1 (.t 91) (.t 92), none⟩,
             ⟨(some 94), .load none (.t 93), none⟩,
             ⟨(some 16), .mv (.t 94), none⟩])
           (.seq
            (.reg none [⟨(some 95), .mv (.t 10), none⟩,
              ⟨(some 96), .mv (.t 14), none⟩,
              ⟨(some 97), .mv (.t 10), none⟩,
              ⟨(some 98), .mv (.t 15), none⟩,
              ⟨(some 99), .iaddr 1 (.t 97) (.t 98), none⟩,
              ⟨(some 100), .load none (.t 99), none⟩,
              ⟨(some 101), .iaddr 1 (.t 95) (.t 96), none⟩,
              ⟨none, .store 1 (.t 101) (.t 100), none⟩])
            (.seq
             (.reg none [⟨(some 102), .mv (.t 10), none⟩,
               ⟨(some 103), .mv (.t 15), none⟩,
               ⟨(some 104), .mv (.t 16), none⟩,
               ⟨(some 105), .iaddr 1 (.t 102) (.t 103), none⟩,
               ⟨none, .store 1 (.t 105) (.t 104), none⟩])
             (.seq
              (.reg (some []) [⟨(some 106), .mv (.t 1), none⟩,
                ⟨(some 107), .conv .u64 (.t 106), none⟩,
                ⟨(some 108), .mv (.t 13), none⟩,
                ⟨(some 109), .bin .rem (.t 107) (.t 108), none⟩,
                ⟨(some 110), .mv (.t 2), none⟩,
                ⟨(some 111), .conv .u64 (.t 110), none⟩,
                ⟨(some 112), .mv (.t 13), none⟩,
                ⟨(some 113), .bin .rem (.t 111) (.t 112), none⟩,
                ⟨(some 14), .mv (.t 109), none⟩,
                ⟨(some 15), .mv (.t 113), none⟩])
              (.seq
               (.seq
                (.reg none [⟨(some 114), .mv (.t 11), none⟩,
                  ⟨(some 115), .len (.t 114), none⟩,
                  ⟨(some 116), .mv (.c (.int .i64 0)), none⟩])
                (.block 0
                 (.loop
                  (.seq
                   (.reg none [⟨(some 117), .bin .lss (.t 116) (.t 115), none⟩])
                   (.seq
                    (.cond (.t 117)
                     .skip
                     (.exit 0))
                    (.seq
                     (.block 1
                      (.seq
                       (.reg none [⟨(some 118), .iaddr 1 (.t 114) (.t 116), none⟩,
                         ⟨(some 119), .load none (.t 118), none⟩,
                         ⟨(some 18), .mv (.t 119), none⟩])
                       (.seq
                        (.reg none [⟨(some 120), .mv (.t 18), none⟩,
                          ⟨(some 121), .mv (.t 14), none⟩,
                          ⟨(some 122), .iaddr 1 (.t 120) (.t 121), none⟩,
                          ⟨(some 123), .load none (.t 122), none⟩,
                          ⟨(some 19), .mv (.t 123), none⟩])
                        (.seq
                         (.reg none [⟨(some 124), .mv (.t 18), none⟩,
                           ⟨(some 125), .mv (.t 14), none⟩,
                           ⟨(some 126), .mv (.t 18), none⟩,
                           ⟨(some 127), .mv (.t 15), none⟩,
                           ⟨(some 128), .iaddr 1 (.t 126) (.t 127), none⟩,
                           ⟨(some 129), .load none (.t 128), none⟩,
                           ⟨(some 130), .iaddr 1 (.t 124) (.t 125), none⟩,
                           ⟨none, .store 1 (.t 130) (.t 129), none⟩])
                         (.reg none [⟨(some 131), .mv (.t 18), none⟩,
                           ⟨(some 132), .mv (.t 15), none⟩,
                           ⟨(some 133), .mv (.t 19), none⟩,
                           ⟨(some 134), .iaddr 1 (.t 131) (.t 132), none⟩,
                           ⟨none, .store 1 (.t 134) (.t 133), none⟩])))))
                     (.reg none [⟨(some 135), .bin .add (.t 116) (.c (.int .i64 1)), none⟩,
                       ⟨(some 116), .mv (.t 135), none⟩])))))))
               (.seq
                (.reg none [⟨(some 137), .mv (.t 0), none⟩,
                  ⟨(some 138), .call 20 [(.t 137)], none⟩,
                  ⟨(some 139), .call 49 [(.t 138)], none⟩,
                  ⟨(some 136), .mv (.t 139), none⟩,
                  ⟨(some 140), .extr (.t 136) 0, none⟩,
                  ⟨(some 141), .extr (.t 136) 1, none⟩,
                  ⟨(some 20), .alloc [(.int .i64 0), (.int .i64 0)], none⟩,
                  ⟨none, .store 2 (.t 20) (.t 140), none⟩,
                  ⟨(some 21), .mv (.t 141), none⟩])
                (.seq
                 (.reg none [⟨(some 143), .mv (.t 0), none⟩,
                   ⟨(some 144), .call 20 [(.t 143)], none⟩,
                   ⟨(some 145), .call 50 [(.t 144)], none⟩,
                   ⟨(some 142), .mv (.t 145), none⟩,
                   ⟨(some 146), .extr (.t 142) 0, none⟩,
                   ⟨(some 147), .extr (.t 142) 1, none⟩,
                   ⟨(some 22), .alloc [(.int .i64 0), (.int .i64 0)], none⟩,
                   ⟨none, .store 2 (.t 22) (.t 146), none⟩,
                   ⟨(some 23), .mv (.t 147), none⟩])
                 (.seq
                  (.reg none [⟨(some 149), .mv (.t 0), none⟩,
                    ⟨(some 150), .call 20 [(.t 149)], none⟩,
                    ⟨(some 151), .call 35 [(.t 150)], none⟩,
                    ⟨(some 148), .mv (.t 151), none⟩,
                    ⟨(some 152), .extr (.t 148) 0, none⟩,
                    ⟨(some 153), .extr (.t 148) 1, none⟩,
                    ⟨(some 24), .alloc [(.int .i64 0), (.int .i64 0)], none⟩,
                    ⟨none, .store 2 (.t 24) (.t 152), none⟩,
                    ⟨(some 25), .mv (.t 153), none⟩])
                  (.seq
                   (.seq
                    (.reg none [⟨(some 154), .mv (.t 7), none⟩,
                      ⟨(some 155), .mv (.t 10), none⟩,
                      ⟨(some 156), .mv (.t 11), none⟩,
                      ⟨(some 157), .bslice [.nils] 3 1 [(0, (.t 154)), (1, (.t 155)), (2, (.t 156))], none⟩,
                      ⟨(some 158), .len (.t 157), none⟩,
                      ⟨(some 159), .mv (.c (.int .i64 0)), none⟩])
                    (.block 2
                     (.loop
                      (.seq
                       (.reg none [⟨(some 160), .bin .lss (.t 159) (.t 158), none⟩])
                       (.seq
                        (.cond (.t 160)
                         .skip
                         (.exit 2))
                        (.seq
                         (.block 3
                          (.seq
                           (.reg none [⟨(some 161), .iaddr 1 (.t 157) (.t 159), none⟩,
                             ⟨(some 162), .load none (.t 161), none⟩,
                             ⟨(some 27), .mv (.t 162), none⟩])
                           (.seq
                            (.reg none [⟨(some 164), .mv (.t 27), none⟩,
                              ⟨(some 165), .call 20 [(.t 164)], none⟩,
                              ⟨(some 166), .call 49 [(.t 165)], none⟩,
                              ⟨(some 163), .mv (.t 166), none⟩,
                              ⟨(some 167), .extr (.t 163) 0, none⟩,
                              ⟨(some 168), .extr (.t 163) 1, none⟩,
                              ⟨(some 28), .alloc [(.int .i64 0), (.int .i64 0)], none⟩,
                              ⟨none, .store 2 (.t 28) (.t 167), none⟩,
                              ⟨(some 29), .mv (.t 168), none⟩])
                            (.seq
                             (.reg none [⟨(some 170), .mv (.t 27), none⟩,
                               ⟨(some 171), .call 20 [(.t 170)], none⟩,
                               ⟨(some 172), .call 50 [(.t 171)], none⟩,
                               ⟨(some 169), .mv (.t 172), none⟩,
                               ⟨(some 173), .extr (.t 169) 0, none⟩,
                               ⟨(some 174), .extr (.t 169) 1, none⟩,
                               ⟨(some 30), .alloc [(.int .i64 0), (.int .i64 0)], none⟩,
                               ⟨none, .store 2 (.t 30) (.t 173), none⟩,
                               ⟨(some 31), .mv (.t 174), none⟩])
                             (.seq
                              (.reg none [⟨(some 176), .mv (.t 27), none⟩,
                                ⟨(some 177), .call 20 [(.t 176)], none⟩,
                                ⟨(some 178), .call 35 [(.t 177)], none⟩,
                                ⟨(some 175), .mv (.t 178), none⟩,
                                ⟨(some 179), .extr (.t 175) 0, none⟩,
                                ⟨(some 180), .extr (.t 175) 1, none⟩,
                                ⟨(some 32), .alloc [(.int .i64 0), (.int .i64 0)], none⟩,
                                ⟨none, .store 2 (.t 32) (.t 179), none⟩,
                                ⟨(some 33), .mv (.t 180), none⟩])
                              (.seq
                               (.reg none [⟨(some 181), .load (some 2) (.t 28), none⟩,
                                 ⟨(some 182), .load (some 2) (.t 20), none⟩,
                                 ⟨(some 183), .aeq true 2 (.t 181) (.t 182), none⟩,
                                 ⟨(some 184), .mv (.t 183), none⟩,
                                 ⟨(some 185), .load (some 2) (.t 30), some (184, false)⟩,
                                 ⟨(some 186), .load (some 2) (.t 22), some (184, false)⟩,
                                 ⟨(some 187), .aeq true 2 (.t 185) (.t 186), some (184, false)⟩,
                                 ⟨(some 188), .pick (.t 184) (.c (.b true)) (.t 187), none⟩,
                                 ⟨(some 189), .mv (.t 188), none⟩,
                                 ⟨(some 190), .load (some 2) (.t 32), some (189, false)⟩,
                                 ⟨(some 191), .load (some 2) (.t 24), some (189, false)⟩,
                                 ⟨(some 192), .aeq true 2 (.t 190) (.t 191), some (189, false)⟩,
                                 ⟨(some 193), .pick (.t 189) (.c (.b true)) (.t 192), none⟩,
                                 ⟨(some 194), .mv (.t 193), none⟩,
                                 ⟨(some 195), .mv (.t 29), some (194, false)⟩,
                                 ⟨(some 196), .mv (.t 21), some (194, false)⟩,
                                 ⟨(some 197), .bin .neq (.t 195) (.t 196), some (194, false)⟩,
                                 ⟨(some 198), .pick (.t 194) (.c (.b true)) (.t 197), none⟩,
                                 ⟨(some 199), .mv (.t 198), none⟩,
                                 ⟨(some 200), .mv (.t 31), some (199, false)⟩,
                                 ⟨(some 201), .mv (.t 23), some (199, false)⟩,
                                 ⟨(some 202), .bin .neq (.t 200) (.t 201), some (199, false)⟩,
                                 ⟨(some 203), .pick (.t 199) (.c (.b true)) (.t 202), none⟩,
                                 ⟨(some 204), .mv (.t 203), none⟩,
                                 ⟨(some 205), .mv (.t 33), some (204, false)⟩,
                                 ⟨(some 206), .mv (.t 25), some (204, false)⟩,
                                 ⟨(some 207), .bin .neq (.t 205) (.t 206), some (204, false)⟩,
                                 ⟨(some 208), .pick (.t 204) (.c (.b true)) (.t 207), none⟩])
                               (.cond (.t 208)
                                (.seq
                                 (.reg none [⟨(some 6), .mv (.c (.b false)), none⟩])
                                 .ret)
                                .skip)))))))
                         (.reg none [⟨(some 209), .bin .add (.t 159) (.c (.int .i64 1)), none⟩,
                           ⟨(some 159), .mv (.t 209), none⟩])))))))
                   (.seq
                    (.reg none [⟨(some 210), .mv (.t 21), none⟩,
                      ⟨(some 211), .bin .eql (.t 210) (.c (.int .i64 0)), none⟩,
                      ⟨(some 212), .mv (.t 211), none⟩,
                      ⟨(some 213), .mv (.t 23), some (212, true)⟩,
                      ⟨(some 214), .bin .eql (.t 213) (.c (.int .i64 0)), some (212, true)⟩,
                      ⟨(some 215), .pick (.t 212) (.t 214) (.c (.b false)), none⟩,
                      ⟨(some 216), .mv (.t 215), none⟩,
                      ⟨(some 217), .call 23 [], some (216, true)⟩,
                      ⟨(some 218), .pick (.t 216) (.t 217) (.c (.b false)), none⟩,
                      ⟨(some 6), .mv (.t 218), none⟩])
                    .ret)))))))))))))))))) }
theorem f16P : prepF C Try.f16 = some f16A := by kernel_rfl

/-- congou/congoulaw06.CountsPaths -/
def f17A : AFunc :=
{ nargs := 3, res := [.t 6], body :=
  (.seq
   (.reg none [⟨(some 6), .mv (.c (.b false)), none⟩])
   (.seq
    (.reg none [⟨(some 12), .mv (.t 0), none⟩,
      ⟨(some 13), .call 20 [(.t 12)], none⟩,
      ⟨(some 14), .mv (.t 1), none⟩,
      ⟨(some 15), .call 20 [(.t 14)], none⟩,
      ⟨(some 16), .call 60 [(.t 13), (.t 15)], none⟩,
      ⟨(some 11), .mv (.t 16), none⟩,
      ⟨(some 17), .extr (.t 11) 0, none⟩,
      ⟨(some 18), .extr (.t 11) 1, none⟩,
      ⟨(some 7), .mv (.t 17), none⟩,
      ⟨(some 8), .mv (.t 18), none⟩])
    (.seq
     (.reg none [⟨(some 20), .mv (.t 0), none⟩,
       ⟨(some 21), .call 20 [(.t 20)], none⟩,
       ⟨(some 22), .mv (.t 1), none⟩,
       ⟨(some 23), .call 20 [(.t 22)], none⟩,
       ⟨(some 24), .mv (.t 2), none⟩,
       ⟨(some 25), .call 62 [(.t 24)], none⟩,
       ⟨(some 26), .call 61 [(.t 21), (.t 23), (.t 25)], none⟩,
       ⟨(some 19), .mv (.t 26), none⟩,
       ⟨(some 27), .extr (.t 19) 0, none⟩,
       ⟨(some 28), .extr (.t 19) 1, none⟩,
       ⟨(some 9), .mv (.t 27), none⟩,
       ⟨(some 10), .mv (.t 28), none⟩])
     (.seq
      (.seq
       (.reg none [⟨(some 29), .mv (.t 0), none⟩,
         ⟨(some 30), .call 22 [(.t 29)], none⟩,
         ⟨(some 31), .un .not (.t 30), none⟩,
         ⟨(some 32), .mv (.t 31), none⟩,
         ⟨(some 33), .mv (.t 1), some (32, false)⟩,
         ⟨(some 34), .call 22 [(.t 33)], some (32, false)⟩,
         ⟨(some 35), .un .not (.t 34), some (32, false)⟩,
         ⟨(some 36), .pick (.t 32) (.c (.b true)) (.t 35), none⟩])
       (.cond (.t 36)
        (.seq
         (.reg none [⟨(some 37), .mv (.t 7), none⟩,
           ⟨(some 38), .len (.t 37), none⟩,
           ⟨(some 39), .bin .eql (.t 38) (.c (.int .i64 0)), none⟩,
           ⟨(some 40), .mv (.t 39), none⟩,
           ⟨(some 41), .mv (.t 9), some (40, true)⟩,
           ⟨(some 42), .un .not (.t 41), some (40, true)⟩,
           ⟨(some 43), .pick (.t 40) (.t 42) (.c (.b false)), none⟩,
           ⟨(some 44), .mv (.t 43), none⟩,
           ⟨(some 45), .mv (.t 8), some (44, true)⟩,
           ⟨(some 46), .bin .eql (.t 45) (.c (.int .i64 2)), some (44, true)⟩,
           ⟨(some 47), .pick (.t 44) (.t 46) (.c (.b false)), none⟩,
           ⟨(some 48), .mv (.t 47), none⟩,
           ⟨(some 49), .mv (.t 10), some (48, true)⟩,
           ⟨(some 50), .bin .eql (.t 49) (.c (.int .i64 2)), some (48, true)⟩,
           ⟨(some 51), .pick (.t 48) (.t 50) (.c (.b false)), none⟩,
           ⟨(some 52), .mv (.t 51), none⟩,
           ⟨(some 53), .call 23 [], some (52, true)⟩,
           ⟨(some 54), .pick (.t 52) (.t 53) (.c (.b false)), none⟩,
           ⟨(some 6), .mv (.t 54), none⟩])
         .ret)
        .skip))
      (.seq
       (.seq
        (.reg none [⟨(some 55), .mv (.t 0), none⟩,
          ⟨(some 56), .mv (.t 1), none⟩,
          ⟨(some 57), .call 63 [(.t 55), (.t 56)], none⟩,
          ⟨(some 58), .un .not (.t 57), none⟩])
        (.cond (.t 58)
         (.seq
          (.reg none [⟨(some 59), .mv (.t 7), none⟩,
            ⟨(some 60), .len (.t 59), none⟩,
            ⟨(some 61), .bin .neq (.t 60) (.c (.int .i64 0)), none⟩,
            ⟨(some 62), .mv (.t 61), none⟩,
            ⟨(some 63), .mv (.t 8), some (62, false)⟩,
            ⟨(some 64), .bin .neq (.t 63) (.c (.int .i64 4)), some (62, false)⟩,
            ⟨(some 65), .pick (.t 62) (.c (.b true)) (.t 64), none⟩])
          (.cond (.t 65)
           (.seq
            (.reg none [⟨(some 6), .mv (.c (.b false)), none⟩])
            .ret)
           .skip))
         (.seq
          (.reg none [⟨(some 66), .mv (.t 8), none⟩,
            ⟨(some 67), .bin .neq (.t 66) (.c (.int .i64 0)), none⟩,
            ⟨(some 68), .mv (.t 67), none⟩,
            ⟨(some 69), .mv (.t 0), some (68, false)⟩,
            ⟨(some 70), .mv (.t 1), some (68, false)⟩,
            ⟨(some 71), .mv (.t 7), some (68, false)⟩,
            ⟨(some 72), .call 64 [(.t 69), (.t 70), (.t 71)], some (68, false)⟩,
            ⟨(some 73), .un .not (.t 72), some (68, false)⟩,
            ⟨(some 74), .pick (.t 68) (.c (.b true)) (.t 73), none⟩,
            ⟨(some 75), .mv (.t 74), none⟩,
            ⟨(some 76), .mv (.t 7), some (75, false)⟩,
            ⟨(some 77), .len (.t 76), some (75, false)⟩,
            ⟨(some 78), .mv (.t 0), some (75, false)⟩,
            ⟨(some 79), .mv (.t 1), some (75, false)⟩,
            ⟨(some 80), .call 65 [(.t 78), (.t 79)], some (75, false)⟩,
            ⟨(some 81), .bin .add (.t 80) (.c (.int .i64 1)), some (75, false)⟩,
            ⟨(some 82), .bin .neq (.t 77) (.t 81), some (75, false)⟩,
            ⟨(some 83), .pick (.t 75) (.c (.b true)) (.t 82), none⟩])
          (.cond (.t 83)
           (.seq
            (.reg none [⟨(some 6), .mv (.c (.b false)), none⟩])
            .ret)
           .skip))))
       (.seq
        (.reg none [⟨(some 84), .mv (.t 10), none⟩,
          ⟨(some 85), .bin .eql (.t 84) (.c (.int .i64 0)), none⟩,
          ⟨(some 86), .mv (.t 85), none⟩,
          ⟨(some 87), .mv (.t 2), some (86, true)⟩,
          ⟨(some 88), .len (.t 87), some (86, true)⟩,
          ⟨(some 89), .bin .gtr (.t 88) (.c (.int .i64 40)), some (86, true)⟩,
          ⟨(some 90), .mv (.t 89), some (86, true)⟩,
          ⟨(some 91), .mv (.t 9), some (90, false)⟩,
          ⟨(some 92), .mv (.t 0), some (90, false)⟩,
          ⟨(some 93), .mv (.t 1), some (90, false)⟩,
          ⟨(some 94), .mv (.t 2), some (90, false)⟩,
          ⟨(some 95), .call 64 [(.t 92), (.t 93), (.t 94)], some (90, false)⟩,
          ⟨(some 96), .beq false (.t 91) (.t 95), some (90, false)⟩,
          ⟨(some 97), .pick (.t 90) (.c (.b true)) (.t 96), some (86, true)⟩,
          ⟨(some 98), .pick (.t 86) (.t 97) (.c (.b false)), none⟩,
          ⟨(some 99), .mv (.t 98), none⟩,
          ⟨(some 100), .call 23 [], some (99, true)⟩,
          ⟨(some 101), .pick (.t 99) (.t 100) (.c (.b false)), none⟩,
          ⟨(some 6), .mv (.t 101), none⟩])
        .ret)))))) }
theorem f17P : prepF C Try.f17 = some f17A := by kernel_rfl

/-- congou/congoulaw06.CountsLed -/
def f18A : AFunc :=
{ nargs := 7, res := [.t 14], body :=
  (.seq
   (.reg none [⟨(some 14), .mv (.c (.b false)), none⟩])
   (.seq
    (.reg none [⟨(some 30), .mv (.t 0), none⟩,
      ⟨(some 31), .call 20 [(.t 30)], none⟩,
      ⟨(some 32), .call 42 [(.t 31)], none⟩,
      ⟨(some 29), .mv (.t 32), none⟩,
      ⟨(some 33), .extr (.t 29) 0, none⟩,
      ⟨(some 34), .extr (.t 29) 1, none⟩,
      ⟨(some 15), .mv (.t 33), none⟩,
      ⟨(some 16), .mv (.t 34), none⟩])
    (.seq
     (.seq
      (.reg none [⟨(some 35), .mv (.t 16), none⟩,
        ⟨(some 36), .bin .neq (.t 35) (.c (.int .i64 0)), none⟩,
        ⟨(some 37), .mv (.t 36), none⟩,
        ⟨(some 38), .mv (.t 0), some (37, false)⟩,
        ⟨(some 39), .call 22 [(.t 38)], some (37, false)⟩,
        ⟨(some 40), .un .not (.t 39), some (37, false)⟩,
        ⟨(some 41), .pick (.t 37) (.c (.b true)) (.t 40), none⟩,
        ⟨(some 42), .mv (.t 41), none⟩,
        ⟨(some 43), .mv (.t 15), some (42, false)⟩,
        ⟨(some 44), .len (.t 43), some (42, false)⟩,
        ⟨(some 45), .bin .eql (.t 44) (.c (.int .i64 0)), some (42, false)⟩,
        ⟨(some 46), .pick (.t 42) (.c (.b true)) (.t 45), none⟩])
      (.cond (.t 46)
       (.seq
        (.reg none [⟨(some 47), .mv (.t 16), none⟩,
          ⟨(some 48), .bin .eql (.t 47) (.c (.int .i64 2)), none⟩,
          ⟨(some 49), .mv (.t 48), none⟩,
          ⟨(some 50), .call 23 [], some (49, true)⟩,
          ⟨(some 51), .pick (.t 49) (.t 50) (.c (.b false)), none⟩,
          ⟨(some 14), .mv (.t 51), none⟩])
        .ret)
       .skip))
     (.seq
      (.reg (some []) [⟨(some 52), .mv (.t 15), none⟩,
        ⟨(some 53), .mv (.t 1), none⟩,
        ⟨(some 54), .conv .u64 (.t 53), none⟩,
        ⟨(some 55), .mv (.t 15), none⟩,
        ⟨(some 56), .len (.t 55), none⟩,
        ⟨(some 57), .conv .u64 (.t 56), none⟩,
        ⟨(some 58), .bin .rem (.t 54) (.t 57), none⟩,
        ⟨(some 59), .conv .i64 (.t 58), none⟩,
        ⟨(some 60), .iaddr 1 (.t 52) (.t 59), none⟩,
        ⟨(some 61), .load none (.t 60), none⟩,
        ⟨(some 62), .mv (.t 15), none⟩,
        ⟨(some 63), .mv (.t 2), none⟩,
        ⟨(some 64), .conv .u64 (.t 63), none⟩,
        ⟨(some 65), .mv (.t 15), none⟩,
        ⟨(some 66), .len (.t 65), none⟩,
        ⟨(some 67), .conv .u64 (.t 66), none⟩,
        ⟨(some 68), .bin .rem (.t 64) (.t 67), none⟩,
        ⟨(some 69), .conv .i64 (.t 68), none⟩,
        ⟨(some 70), .iaddr 1 (.t 62) (.t 69), none⟩,
        ⟨(some 71), .load none (.t 70), none⟩,
        ⟨(some 17), .mv (.t 61), none⟩,
        ⟨(some 18), .mv (.t 71), none⟩])
      (.seq
       (.reg none [⟨(some 73), .mv (.t 17), none⟩,
         ⟨(some 74), .call 20 [(.t 73)], none⟩,
         ⟨(some 75), .mv (.t 18), none⟩,
         ⟨(some 76), .call 20 [(.t 75)], none⟩,
         ⟨(some 77), .call 60 [(.t 74), (.t 76)], none⟩,
         ⟨(some 72), .mv (.t 77), none⟩,
         ⟨(some 78), .extr (.t 72) 0, none⟩,
         ⟨(some 79), .extr (.t 72) 1, none⟩,
         ⟨(some 19), .mv (.t 78), none⟩,
         ⟨(some 20), .mv (.t 79), none⟩])
       (.seq
        (.reg none [⟨(some 81), .mv (.t 18), none⟩,
          ⟨(some 82), .call 20 [(.t 81)], none⟩,
          ⟨(some 83), .mv (.t 17), none⟩,
          ⟨(some 84), .call 20 [(.t 83)], none⟩,
          ⟨(some 85), .call 60 [(.t 82), (.t 84)], none⟩,
          ⟨(some 80), .mv (.t 85), none⟩,
          ⟨(some 86), .extr (.t 80) 0, none⟩,
          ⟨(some 87), .extr (.t 80) 1, none⟩,
          ⟨(some 21), .mv (.t 86), none⟩,
          ⟨(some 22), .mv (.t 87), none⟩])
        (.seq
         (.seq
          (.reg none [⟨(some 88), .mv (.t 20), none⟩,
            ⟨(some 89), .bin .neq (.t 88) (.c (.int .i64 0)), none⟩,
            ⟨(some 90), .mv (.t 89), none⟩,
            ⟨(some 91), .mv (.t 22), some (90, false)⟩,
            ⟨(some 92), .bin .neq (.t 91) (.c (.int .i64 0)), some (90, false)⟩,
            ⟨(some 93), .pick (.t 90) (.c (.b true)) (.t 92), none⟩,
            ⟨(some 94), .mv (.t 93), none⟩,
            ⟨(some 95), .mv (.t 19), some (94, false)⟩,
            ⟨(some 96), .len (.t 95), some (94, false)⟩,
            ⟨(some 97), .mv (.t 21), some (94, false)⟩,
            ⟨(some 98), .len (.t 97), some (94, false)⟩,
            ⟨(some 99), .bin .neq (.t 96) (.t 98), some (94, false)⟩,
            ⟨(some 100), .pick (.t 94) (.c (.b true)) (.t 99), none⟩,
            ⟨(some 101), .mv (.t 100), none⟩,
            ⟨(some 102), .mv (.t 19), some (101, false)⟩,
            ⟨(some 103), .len (.t 102), some (101, false)⟩,
            ⟨(some 104), .bin .gtr (.t 103) (.c (.int .i64 40)), some (101, false)⟩,
            ⟨(some 105), .pick (.t 101) (.c (.b true)) (.t 104), none⟩])
          (.cond (.t 105)
           (.seq
            (.reg none [⟨(some 14), .mv (.c (.b false)), none⟩])
            .ret)
           .skip))
         (.seq
          (.seq
           (.reg none [⟨(some 106), .mv (.t 19), none⟩,
             ⟨(some 107), .len (.t 106), none⟩,
             ⟨(some 108), .mv (.c (.int .i64 0)), none⟩])
           (.block 0
            (.loop
             (.seq
              (.reg none [⟨(some 109), .bin .lss (.t 108) (.t 107), none⟩])
              (.seq
               (.cond (.t 109)
                .skip
                (.exit 0))
               (.seq
                (.block 1
                 (.seq
                  (.reg none [⟨(some 110), .iaddr 1 (.t 106) (.t 108), none⟩,
                    ⟨(some 111), .load none (.t 110), none⟩,
                    ⟨(some 24), .alloc [.nils], none⟩,
                    ⟨none, .store 1 (.t 24) (.t 111), none⟩])
                  (.seq
                   (.reg none [⟨(some 112), .mv (.t 15), none⟩,
                     ⟨(some 113), .mkfn 67 [] [(.t 24)], none⟩,
                     ⟨(some 114), .call 66 [(.t 112), (.t 113)], none⟩,
                     ⟨(some 115), .un .not (.t 114), none⟩])
                   (.cond (.t 115)
                    (.seq
                     (.reg none [⟨(some 14), .mv (.c (.b false)), none⟩])
                     .ret)
                    .skip))))
                (.reg none [⟨(some 116), .bin .add (.t 108) (.c (.int .i64 1)), none⟩,
                  ⟨(some 108), .mv (.t 116), none⟩])))))))
          (.seq
           (.reg none [⟨(some 118), .mv (.t 17), none⟩,
             ⟨(some 119), .call 20 [(.t 118)], none⟩,
             ⟨(some 120), .mv (.t 18), none⟩,
             ⟨(some 121), .call 20 [(.t 120)], none⟩,
             ⟨(some 122), .mv (.t 19), none⟩,
             ⟨(some 123), .call 62 [(.t 122)], none⟩,
             ⟨(some 124), .call 61 [(.t 119), (.t 121), (.t 123)], none⟩,
             ⟨(some 117), .mv (.t 124), none⟩,
             ⟨(some 125), .extr (.t 117) 0, none⟩,
             ⟨(some 126), .extr (.t 117) 1, none⟩,
             ⟨(some 25), .mv (.t 125), none⟩,
             ⟨(some 20), .mv (.t 126), none⟩])
           (.seq
            (.reg none [⟨(some 127), .mv (.t 19), none⟩,
              ⟨(some 128), .call 68 [(.t 127)], none⟩])
            (.seq
             (.reg none [⟨(some 130), .mv (.t 18), none⟩,
               ⟨(some 131), .call 20 [(.t 130)], none⟩,
               ⟨(some 132), .mv (.t 17), none⟩,
               ⟨(some 133), .call 20 [(.t 132)], none⟩,
               ⟨(some 134), .mv (.t 19), none⟩,
               ⟨(some 135), .call 62 [(.t 134)], none⟩,
               ⟨(some 136), .call 61 [(.t 131), (.t 133), (.t 135)], none⟩,
               ⟨(some 129), .mv (.t 136), none⟩,
               ⟨(some 137), .extr (.t 129) 0, none⟩,
               ⟨(some 138), .extr (.t 129) 1, none⟩,
               ⟨(some 26), .mv (.t 137), none⟩,
               ⟨(some 22), .mv (.t 138), none⟩])
             (.seq
              (.seq
               (.reg none [⟨(some 139), .mv (.t 25), none⟩,
                 ⟨(some 140), .un .not (.t 139), none⟩,
                 ⟨(some 141), .mv (.t 140), none⟩,
                 ⟨(some 142), .mv (.t 26), some (141, false)⟩,
                 ⟨(some 143), .un .not (.t 142), some (141, false)⟩,
                 ⟨(some 144), .pick (.t 141) (.c (.b true)) (.t 143), none⟩,
                 ⟨(some 145), .mv (.t 144), none⟩,
                 ⟨(some 146), .mv (.t 20), some (145, false)⟩,
                 ⟨(some 147), .bin .neq (.t 146) (.c (.int .i64 0)), some (145, false)⟩,
                 ⟨(some 148), .pick (.t 145) (.c (.b true)) (.t 147), none⟩,
                 ⟨(some 149), .mv (.t 148), none⟩,
                 ⟨(some 150), .mv (.t 22), some (149, false)⟩,
                 ⟨(some 151), .bin .neq (.t 150) (.c (.int .i64 0)), some (149, false)⟩,
                 ⟨(some 152), .pick (.t 149) (.c (.b true)) (.t 151), none⟩])
               (.cond (.t 152)
                (.seq
                 (.reg none [⟨(some 14), .mv (.c (.b false)), none⟩])
                 .ret)
                .skip))
              (.seq
               (.reg none [⟨(some 154), .mv (.t 17), none⟩,
                 ⟨(some 155), .call 20 [(.t 154)], none⟩,
                 ⟨(some 156), .mv (.t 3), none⟩,
                 ⟨(some 157), .mv (.t 4), none⟩,
                 ⟨(some 158), .mv (.t 5), none⟩,
                 ⟨(some 159), .mv (.t 6), none⟩,
                 ⟨(some 160), .call 32 [(.t 155), (.t 156), (.t 157), (.t 158), (.t 159)], none⟩,
                 ⟨(some 153), .mv (.t 160), none⟩,
                 ⟨(some 161), .extr (.t 153) 0, none⟩,
                 ⟨(some 162), .extr (.t 153) 1, none⟩,
                 ⟨(some 27), .alloc [.nils], none⟩,
                 ⟨none, .store 1 (.t 27) (.t 161), none⟩,
                 ⟨(some 16), .mv (.t 162), none⟩])
               (.seq
                (.seq
                 (.reg none [⟨(some 163), .mv (.t 16), none⟩,
                   ⟨(some 164), .bin .neq (.t 163) (.c (.int .i64 0)), none⟩])
                 (.cond (.t 164)
                  (.seq
                   (.reg none [⟨(some 165), .mv (.t 16), none⟩,
                     ⟨(some 166), .bin .eql (.t 165) (.c (.int .i64 4)), none⟩,
                     ⟨(some 167), .mv (.t 166), none⟩,
                     ⟨(some 168), .mv (.t 16), some (167, false)⟩,
                     ⟨(some 169), .bin .eql (.t 168) (.c (.int .i64 2)), some (167, false)⟩,
                     ⟨(some 170), .pick (.t 167) (.c (.b true)) (.t 169), none⟩,
                     ⟨(some 171), .mv (.t 170), none⟩,
                     ⟨(some 172), .call 23 [], some (171, true)⟩,
                     ⟨(some 173), .pick (.t 171) (.t 172) (.c (.b false)), none⟩,
                     ⟨(some 14), .mv (.t 173), none⟩])
                   .ret)
                  .skip))
                (.seq
                 (.reg none [⟨(some 175), .load none (.t 27), none⟩,
                   ⟨(some 176), .call 20 [(.t 175)], none⟩,
                   ⟨(some 177), .mv (.t 3), none⟩,
                   ⟨(some 178), .mv (.t 4), none⟩,
                   ⟨(some 179), .mv (.t 6), none⟩,
                   ⟨(some 180), .mv (.t 5), none⟩,
                   ⟨(some 181), .call 32 [(.t 176), (.t 177), (.t 178), (.t 179), (.t 180)], none⟩,
                   ⟨(some 174), .mv (.t 181), none⟩,
                   ⟨(some 182), .extr (.t 174) 0, none⟩,
                   ⟨(some 183), .extr (.t 174) 1, none⟩,
                   ⟨(some 28), .mv (.t 182), none⟩,
                   ⟨(some 16), .mv (.t 183), none⟩])
                 (.seq
                  (.reg none [⟨(some 184), .mv (.t 16), none⟩,
                    ⟨(some 185), .bin .eql (.t 184) (.c (.int .i64 0)), none⟩,
                    ⟨(some 186), .mv (.t 185), none⟩,
                    ⟨(some 187), .mv (.t 28), some (186, true)⟩,
                    ⟨(some 188), .mv (.t 17), some (186, true)⟩,
                    ⟨(some 189), .call 26 [(.t 187), (.t 188)], some (186, true)⟩,
                    ⟨(some 190), .pick (.t 186) (.t 189) (.c (.b false)), none⟩,
                    ⟨(some 191), .mv (.t 190), none⟩,
                    ⟨(some 192), .mv (.t 15), some (191, true)⟩,
                    ⟨(some 193), .mkfn 69 [] [(.t 27)], some (191, true)⟩,
                    ⟨(some 194), .call 66 [(.t 192), (.t 193)], some (191, true)⟩,
                    ⟨(some 195), .pick (.t 191) (.t 194) (.c (.b false)), none⟩,
                    ⟨(some 196), .mv (.t 195), none⟩,
                    ⟨(some 197), .call 23 [], some (196, true)⟩,
                    ⟨(some 198), .pick (.t 196) (.t 197) (.c (.b false)), none⟩,
                    ⟨(some 14), .mv (.t 198), none⟩])
                  .ret)))))))))))))))) }
theorem f18P : prepF C Try.f18 = some f18A := by kernel_rfl

/-- congou/counts.Sums -/
def f19A : AFunc :=
{ nargs := 1, res := [.t 2, .t 3, .t 4], body :=
  (.seq
   (.reg none [⟨(some 2), .mv (.c .nils), none⟩,
     ⟨(some 3), .mv (.c .nils), none⟩,
     ⟨(some 4), .mv (.c (.int .i64 0)), none⟩])
   (.seq
    (.seq
     (.reg none [⟨(some 5), .mv (.t 0), none⟩,
       ⟨(some 6), .call 70 [(.t 5)], none⟩,
       ⟨(some 7), .un .not (.t 6), none⟩])
     (.cond (.t 7)
      (.seq
       (.reg none [⟨(some 2), .mv (.c .nils), none⟩,
         ⟨(some 3), .mv (.c .nils), none⟩,
         ⟨(some 4), .mv (.c (.int .i64 2)), none⟩])
       .ret)
      .skip))
    (.seq
     (.reg none [⟨(some 9), .mv (.t 0), none⟩,
       ⟨(some 10), .call 71 [(.t 9)], none⟩,
       ⟨(some 8), .mv (.t 10), none⟩,
       ⟨(some 11), .extr (.t 8) 0, none⟩,
       ⟨(some 12), .extr (.t 8) 1, none⟩,
       ⟨(some 2), .mv (.t 11), none⟩,
       ⟨(some 3), .mv (.t 12), none⟩])
     (.seq
      (.reg none [⟨(some 13), .mv (.t 2), none⟩,
        ⟨(some 14), .mv (.t 3), none⟩,
        ⟨(some 2), .mv (.t 13), none⟩,
        ⟨(some 3), .mv (.t 14), none⟩,
        ⟨(some 4), .mv (.c (.int .i64 0)), none⟩])
      .ret)))) }
theorem f19P : prepF C Try.f19 = some f19A := by kernel_rfl

/-- congou/congoulaw06.table -/
def f20A : AFunc :=
{ nargs := 1, res := [.t 2], body :=
  (.seq
   (.reg none [⟨(some 2), .mv (.c .nils), none⟩])
   (.seq
    (.reg none [⟨(some 3), .mv (.c .nils), none⟩])
    (.seq
     (.seq
      (.reg none [⟨(some 6), .mv (.t 0), none⟩,
        ⟨(some 7), .len (.t 6), none⟩,
        ⟨(some 8), .mv (.c (.int .i64 0)), none⟩])
      (.block 0
       (.loop
        (.seq
         (.reg none [⟨(some 9), .bin .lss (.t 8) (.t 7), none⟩])
         (.seq
          (.cond (.t 9)
           .skip
           (.exit 0))
          (.seq
           (.block 1
            (.seq
             (.reg none [⟨(some 10), .mv (.t 8), none⟩,
               ⟨(some 11), .iaddr 1 (.t 6) (.t 8), none⟩,
               ⟨(some 12), .load none (.t 11), none⟩,
               ⟨(some 4), .mv (.t 10), none⟩,
               ⟨(some 5), .mv (.t 12), none⟩])
             (.seq
              (.reg none [⟨(some 13), .mv (.t 4), none⟩,
                ⟨(some 14), .bin .lss (.t 13) (.c (.int .i64 6)), none⟩])
              (.cond (.t 14)
               (.reg none [⟨(some 15), .mv (.t 3), none⟩,
                 ⟨(some 16), .mv (.t 5), none⟩,
                 ⟨(some 17), .call 39 [(.t 16)], none⟩,
                 ⟨(some 18), .bslice [.nils] 1 1 [(0, (.t 17))], none⟩,
                 ⟨(some 19), .append 1 24 (.t 15) (.t 18), none⟩,
                 ⟨(some 3), .mv (.t 19), none⟩])
               .skip))))
           (.reg none [⟨(some 20), .bin .add (.t 8) (.c (.int .i64 1)), none⟩,
             ⟨(some 8), .mv (.t 20), none⟩])))))))
     (.seq
      (.reg none [⟨(some 21), .mv (.t 3), none⟩,
        ⟨(some 2), .mv (.t 21), none⟩])
      .ret)))) }
theorem f20P : prepF C Try.f20 = some f20A := by kernel_rfl

/-- congou/counts.Turn -/
def f21A : AFunc :=
{ nargs := 1, res := [.t 2, .t 3], body :=
  (.seq
   (.reg none [⟨(some 2), .mv (.c .nils), none⟩,
     ⟨(some 3), .mv (.c (.int .i64 0)), none⟩])
   (.seq
    (.seq
     (.reg none [⟨(some 9), .mv (.t 0), none⟩,
       ⟨(some 10), .call 70 [(.t 9)], none⟩,
       ⟨(some 11), .un .not (.t 10), none⟩])
     (.cond (.t 11)
      (.seq
       (.reg none [⟨(some 2), .mv (.c .nils), none⟩,
         ⟨(some 3), .mv (.c (.int .i64 2)), none⟩])
       .ret)
      .skip))
    (.seq
     (.reg none [⟨(some 12), .mv (.t 0), none⟩,
       ⟨(some 13), .iaddr 1 (.t 12) (.c (.int .i64 0)), none⟩,
       ⟨(some 14), .load none (.t 13), none⟩,
       ⟨(some 15), .len (.t 14), none⟩,
       ⟨(some 16), .mkslice 1 24 [.nils] (.t 15), none⟩,
       ⟨(some 4), .mv (.t 16), none⟩])
     (.seq
      (.seq
       (.reg none [⟨(some 17), .mv (.t 0), none⟩,
         ⟨(some 18), .len (.t 17), none⟩,
         ⟨(some 19), .mv (.c (.int .i64 0)), none⟩])
       (.block 0
        (.loop
         (.seq
          (.reg none [⟨(some 20), .bin .lss (.t 19) (.t 18), none⟩])
          (.seq
           (.cond (.t 20)
            .skip
            (.exit 0))
           (.seq
            (.block 1
             (.seq
              (.reg none [⟨(some 21), .iaddr 1 (.t 17) (.t 19), none⟩,
                ⟨(some 22), .load none (.t 21), none⟩,
                ⟨(some 6), .mv (.t 22), none⟩])
              (.seq
               (.reg none [⟨(some 23), .mv (.t 6), none⟩,
                 ⟨(some 24), .len (.t 23), none⟩,
                 ⟨(some 25), .mv (.c (.int .i64 0)), none⟩])
               (.block 2
                (.loop
                 (.seq
                  (.reg none [⟨(some 26), .bin .lss (.t 25) (.t 24), none⟩])
                  (.seq
                   (.cond (.t 26)
                    .skip
                    (.exit 2))
                   (.seq
                    (.block 3
                     (.seq
                      (.reg none [⟨(some 27), .mv (.t 25), none⟩,
                        ⟨(some 28), .iaddr 1 (.t 23) (.t 25), none⟩,
                        ⟨(some 29), .load none (.t 28), none⟩,
                        ⟨(some 7), .mv (.t 27), none⟩,
                        ⟨(some 8), .mv (.t 29), none⟩])
                      (.reg none [⟨(some 30), .mv (.t 4), none⟩,
                        ⟨(some 31), .mv (.t 7), none⟩,
                        ⟨(some 32), .mv (.t 4), none⟩,
                        ⟨(some 33), .mv (.t 7), none⟩,
                        ⟨(some 34), .iaddr 1 (.t 32) (.t 33), none⟩,
                        ⟨(some 35), .load none (.t 34), none⟩,
                        ⟨(some 36), .mv (.t 8), none⟩,
                        ⟨(some 37), .bslice [(.int .i64 0)] 1 1 [(0, (.t 36))], none⟩,
                        ⟨(some 38), .append 1 8 (.t 35) (.t 37), none⟩,
                        ⟨(some 39), .iaddr 1 (.t 30) (.t 31), none⟩,
                        ⟨none, .store 1 (.t 39) (.t 38), none⟩])))
                    (.reg none [⟨(some 40), .bin .add (.t 25) (.c (.int .i64 1)), none⟩,
                      ⟨(some 25), .mv (.t 40), none⟩])))))))))
            (.reg none [⟨(some 41), .bin .add (.t 19) (.c (.int .i64 1)), none⟩,
              ⟨(some 19), .mv (.t 41), none⟩])))))))
      (.seq
       (.reg none [⟨(some 42), .mv (.t 4), none⟩,
         ⟨(some 2), .mv (.t 42), none⟩,
         ⟨(some 3), .mv (.c (.int .i64 0)), none⟩])
       .ret))))) }
theorem f21P : prepF C Try.f21 = some f21A := by kernel_rfl

/-- congou/congouref06.Table -/
def f22A : AFunc :=
{ nargs := 1, res := [.t 2], body :=
  (.seq
   (.reg none [⟨(some 2), .mv (.c (.b false)), none⟩])
   (.seq
    (.reg none [⟨(some 3), .mv (.c (.int .i64 0)), none⟩])
    (.seq
     (.seq
      (.reg none [⟨(some 8), .mv (.t 0), none⟩,
        ⟨(some 9), .len (.t 8), none⟩,
        ⟨(some 10), .mv (.c (.int .i64 0)), none⟩])
      (.block 0
       (.loop
        (.seq
         (.reg none [⟨(some 11), .bin .lss (.t 10) (.t 9), none⟩])
         (.seq
          (.cond (.t 11)
           .skip
           (.exit 0))
          (.seq
           (.block 1
            (.seq
             (.reg none [⟨(some 12), .iaddr 1 (.t 8) (.t 10), none⟩,
               ⟨(some 13), .load none (.t 12), none⟩,
               ⟨(some 5), .mv (.t 13), none⟩])
             (.seq
              (.seq
               (.reg none [⟨(some 14), .mv (.t 5), none⟩,
                 ⟨(some 15), .len (.t 14), none⟩,
                 ⟨(some 16), .mv (.t 0), none⟩,
                 ⟨(some 17), .iaddr 1 (.t 16) (.c (.int .i64 0)), none⟩,
                 ⟨(some 18), .load none (.t 17), none⟩,
                 ⟨(some 19), .len (.t 18), none⟩,
                 ⟨(some 20), .bin .neq (.t 15) (.t 19), none⟩,
                 ⟨(some 21), .mv (.t 20), none⟩,
                 ⟨(some 22), .mv (.t 5), some (21, false)⟩,
                 ⟨(some 23), .len (.t 22), some (21, false)⟩,
                 ⟨(some 24), .bin .lss (.t 23) (.c (.int .i64 1)), some (21, false)⟩,
                 ⟨(some 25), .pick (.t 21) (.c (.b true)) (.t 24), none⟩,
                 ⟨(some 26), .mv (.t 25), none⟩,
                 ⟨(some 27), .mv (.t 5), some (26, false)⟩,
                 ⟨(some 28), .len (.t 27), some (26, false)⟩,
                 ⟨(some 29), .bin .gtr (.t 28) (.c (.int .i64 3)), some (26, false)⟩,
                 ⟨(some 30), .pick (.t 26) (.c (.b true)) (.t 29), none⟩])
               (.cond (.t 30)
                (.seq
                 (.reg none [⟨(some 2), .mv (.c (.b false)), none⟩])
                 .ret)
                .skip))
              (.seq
               (.reg none [⟨(some 31), .mv (.t 5), none⟩,
                 ⟨(some 32), .len (.t 31), none⟩,
                 ⟨(some 33), .mv (.c (.int .i64 0)), none⟩])
               (.block 2
                (.loop
                 (.seq
                  (.reg none [⟨(some 34), .bin .lss (.t 33) (.t 32), none⟩])
                  (.seq
                   (.cond (.t 34)
                    .skip
                    (.exit 2))
                   (.seq
                    (.block 3
                     (.seq
                      (.reg none [⟨(some 35), .iaddr 1 (.t 31) (.t 33), none⟩,
                        ⟨(some 36), .load none (.t 35), none⟩,
                        ⟨(some 7), .mv (.t 36), none⟩])
                      (.seq
                       (.seq
                        (.reg none [⟨(some 37), .mv (.t 7), none⟩,
                          ⟨(some 38), .bin .lss (.t 37) (.c (.int .i64 0)), none⟩,
                          ⟨(some 39), .mv (.t 38), none⟩,
                          ⟨(some 40), .mv (.t 7), some (39, false)⟩,
                          ⟨(some 41), .bin .gtr (.t 40) (.c (.int .i64 16)), some (39, false)⟩,
                          ⟨(some 42), .pick (.t 39) (.c (.b true)) (.t 41), none⟩])
                        (.cond (.t 42)
                         (.seq
                          (.reg none [⟨(some 2), .mv (.c (.b false)), none⟩])
                          .ret)
                         .skip))
                       (.reg none [⟨(some 43), .mv (.t 3), none⟩,
                         ⟨(some 44), .mv (.t 7), none⟩,
                         ⟨(some 45), .bin .add (.t 43) (.t 44), none⟩,
                         ⟨(some 3), .mv (.t 45), none⟩]))))
                    (.reg none [⟨(some 46), .bin .add (.t 33) (.c (.int .i64 1)), none⟩,
                      ⟨(some 33), .mv (.t 46), none⟩]))))))))))
           (.reg none [⟨(some 47), .bin .add (.t 10) (.c (.int .i64 1)), none⟩,
             ⟨(some 10), .mv (.t 47), none⟩])))))))
     (.seq
      (.reg none [⟨(some 48), .mv (.t 0), none⟩,
        ⟨(some 49), .len (.t 48), none⟩,
        ⟨(some 50), .bin .geq (.t 49) (.c (.int .i64 1)), none⟩,
        ⟨(some 51), .mv (.t 50), none⟩,
        ⟨(some 52), .mv (.t 0), some (51, true)⟩,
        ⟨(some 53), .len (.t 52), some (51, true)⟩,
        ⟨(some 54), .bin .leq (.t 53) (.c (.int .i64 3)), some (51, true)⟩,
        ⟨(some 55), .pick (.t 51) (.t 54) (.c (.b false)), none⟩,
        ⟨(some 56), .mv (.t 55), none⟩,
        ⟨(some 57), .mv (.t 3), some (56, true)⟩,
        ⟨(some 58), .bin .leq (.t 57) (.c (.int .i64 16)), some (56, true)⟩,
        ⟨(some 59), .pick (.t 56) (.t 58) (.c (.b false)), none⟩,
        ⟨(some 2), .mv (.t 59), none⟩])
      .ret)))) }
theorem f22P : prepF C Try.f22 = some f22A := by kernel_rfl

/-- congou/congoulaw06.awake -/
def f23A : AFunc :=
{ nargs := 0, res := [.t 0], body :=
  (.seq
   (.reg none [⟨(some 0), .mv (.c (.b false)), none⟩])
   (.seq
    (.reg none [⟨(some 5), .bslice [(.int .i64 0)] 2 1 [(0, (.c (.int .i64 1))), (1, (.c (.int .i64 2)))], none⟩,
      ⟨(some 6), .bslice [(.int .i64 0)] 2 1 [(0, (.c (.int .i64 3))), (1, (.c (.int .i64 4)))], none⟩,
      ⟨(some 7), .bslice [.nils] 2 1 [(0, (.t 5)), (1, (.t 6))], none⟩,
      ⟨(some 8), .call 19 [(.t 7)], none⟩,
      ⟨(some 4), .mv (.t 8), none⟩,
      ⟨(some 9), .extr (.t 4) 0, none⟩,
      ⟨(some 10), .extr (.t 4) 1, none⟩,
      ⟨(some 11), .extr (.t 4) 2, none⟩,
      ⟨(some 1), .mv (.t 9), none⟩,
      ⟨(some 2), .mv (.t 10), none⟩,
      ⟨(some 3), .mv (.t 11), none⟩])
    (.seq
     (.reg none [⟨(some 12), .mv (.t 3), none⟩,
       ⟨(some 13), .bin .eql (.t 12) (.c (.int .i64 0)), none⟩,
       ⟨(some 14), .mv (.t 13), none⟩,
       ⟨(some 15), .mv (.t 1), some (14, true)⟩,
       ⟨(some 16), .bslice [(.int .i64 0)] 2 1 [(0, (.c (.int .i64 3))), (1, (.c (.int .i64 7)))], some (14, true)⟩,
       ⟨(some 17), .call 25 [(.t 15), (.t 16)], some (14, true)⟩,
       ⟨(some 18), .pick (.t 14) (.t 17) (.c (.b false)), none⟩,
       ⟨(some 19), .mv (.t 18), none⟩,
       ⟨(some 20), .mv (.t 2), some (19, true)⟩,
       ⟨(some 21), .bslice [(.int .i64 0)] 2 1 [(0, (.c (.int .i64 4))), (1, (.c (.int .i64 6)))], some (19, true)⟩,
       ⟨(some 22), .call 25 [(.t 20), (.t 21)], some (19, true)⟩,
       ⟨(some 23), .pick (.t 19) (.t 22) (.c (.b false)), none⟩,
       ⟨(some 0), .mv (.t 23), none⟩])
     .ret))) }
theorem f23P : prepF C Try.f23 = some f23A := by kernel_rfl

/-- congou/congouref06.Sums -/
def f24A : AFunc :=
{ nargs := 1, res := [.t 2, .t 3], body :=
  (.seq
   (.reg none [⟨(some 2), .mv (.c .nils), none⟩,
     ⟨(some 3), .mv (.c .nils), none⟩])
   (.seq
    (.reg (some []) [⟨(some 10), .mv (.t 0), none⟩,
      ⟨(some 11), .len (.t 10), none⟩,
      ⟨(some 12), .mkslice 1 8 [(.int .i64 0)] (.t 11), none⟩,
      ⟨(some 13), .mv (.t 0), none⟩,
      ⟨(some 14), .iaddr 1 (.t 13) (.c (.int .i64 0)), none⟩,
      ⟨(some 15), .load none (.t 14), none⟩,
      ⟨(some 16), .len (.t 15), none⟩,
      ⟨(some 17), .mkslice 1 8 [(.int .i64 0)] (.t 16), none⟩,
      ⟨(some 4), .mv (.t 12), none⟩,
      ⟨(some 5), .mv (.t 17), none⟩])
    (.seq
     (.seq
      (.reg none [⟨(some 18), .mv (.t 0), none⟩,
        ⟨(some 19), .len (.t 18), none⟩,
        ⟨(some 20), .mv (.c (.int .i64 0)), none⟩])
      (.block 0
       (.loop
        (.seq
         (.reg none [⟨(some 21), .bin .lss (.t 20) (.t 19), none⟩])
         (.seq
          (.cond (.t 21)
           .skip
           (.exit 0))
          (.seq
           (.block 1
            (.seq
             (.reg none [⟨(some 22), .mv (.t 20), none⟩,
               ⟨(some 23), .iaddr 1 (.t 18) (.t 20), none⟩,
               ⟨(some 24), .load none (.t 23), none⟩,
               ⟨(some 6), .mv (.t 22), none⟩,
               ⟨(some 7), .mv (.t 24), none⟩])
             (.seq
              (.reg none [⟨(some 25), .mv (.t 7), none⟩,
                ⟨(some 26), .len (.t 25), none⟩,
                ⟨(some 27), .mv (.c (.int .i64 0)), none⟩])
              (.block 2
               (.loop
                (.seq
                 (.reg none [⟨(some 28), .bin .lss (.t 27) (.t 26), none⟩])
                 (.seq
                  (.cond (.t 28)
                   .skip
                   (.exit 2))
                  (.seq
                   (.block 3
                    (.seq
                     (.reg none [⟨(some 29), .mv (.t 27), none⟩,
                       ⟨(some 30), .iaddr 1 (.t 25) (.t 27), none⟩,
                       ⟨(some 31), .load none (.t 30), none⟩,
                       ⟨(some 8), .mv (.t 29), none⟩,
                       ⟨(some 9), .mv (.t 31), none⟩])
                     (.seq
                      (.reg none [⟨(some 32), .mv (.t 4), none⟩,
                        ⟨(some 33), .mv (.t 6), none⟩,
                        ⟨(some 34), .iaddr 1 (.t 32) (.t 33), none⟩,
                        ⟨(some 35), .load none (.t 34), none⟩,
                        ⟨(some 36), .mv (.t 9), none⟩,
                        ⟨(some 37), .bin .add (.t 35) (.t 36), none⟩,
                        ⟨(some 38), .iaddr 1 (.t 32) (.t 33), none⟩,
                        ⟨none, .store 1 (.t 38) (.t 37), none⟩])
                      (.reg none [⟨(some 39), .mv (.t 5), none⟩,
                        ⟨(some 40), .mv (.t 8), none⟩,
                        ⟨(some 41), .iaddr 1 (.t 39) (.t 40), none⟩,
                        ⟨(some 42), .load none (.t 41), none⟩,
                        ⟨(some 43), .mv (.t 9), none⟩,
                        ⟨(some 44), .bin .add (.t 42) (.t 43), none⟩,
                        ⟨(some 45), .iaddr 1 (.t 39) (.t 40), none⟩,
                        ⟨none, .store 1 (.t 45) (.t 44), none⟩]))))
                   (.reg none [⟨(some 46), .bin .add (.t 27) (.c (.int .i64 1)), none⟩,
                     ⟨(some 27), .mv (.t 46), none⟩])))))))))
           (.reg none [⟨(some 47), .bin .add (.t 20) (.c (.int .i64 1)), none⟩,
             ⟨(some 20), .mv (.t 47), none⟩])))))))
     (.seq
      (.reg none [⟨(some 48), .mv (.t 4), none⟩,
        ⟨(some 49), .mv (.t 5), none⟩,
        ⟨(some 2), .mv (.t 48), none⟩,
        ⟨(some 3), .mv (.t 49), none⟩])
      .ret)))) }
theorem f24P : prepF C Try.f24 = some f24A := by kernel_rfl

/-- slices.Equal[[]int,int] -/
def f25A : AFunc :=
{ nargs := 2, res := [.t 4], body :=
  (.seq
   (.reg none [⟨(some 4), .mv (.c (.b false)), none⟩])
   (.seq
    (.seq
     (.reg none [⟨(some 6), .mv (.t 0), none⟩,
       ⟨(some 7), .len (.t 6), none⟩,
       ⟨(some 8), .mv (.t 1), none⟩,
       ⟨(some 9), .len (.t 8), none⟩,
       ⟨(some 10), .bin .neq (.t 7) (.t 9), none⟩])
     (.cond (.t 10)
      (.seq
       (.reg none [⟨(some 4), .mv (.c (.b false)), none⟩])
       .ret)
      .skip))
    (.seq
     (.seq
      (.reg none [⟨(some 11), .mv (.t 0), none⟩,
        ⟨(some 12), .len (.t 11), none⟩,
        ⟨(some 13), .mv (.c (.int .i64 0)), none⟩])
      (.block 0
       (.loop
        (.seq
         (.reg none [⟨(some 14), .bin .lss (.t 13) (.t 12), none⟩])
         (.seq
          (.cond (.t 14)
           .skip
           (.exit 0))
          (.seq
           (.block 1
            (.seq
             (.reg none [⟨(some 15), .mv (.t 13), none⟩,
               ⟨(some 5), .mv (.t 15), none⟩])
             (.seq
              (.reg (some []) [⟨(some 16), .mv (.t 0), none⟩,
                ⟨(some 17), .mv (.t 5), none⟩,
                ⟨(some 18), .iaddr 1 (.t 16) (.t 17), none⟩,
                ⟨(some 19), .load none (.t 18), none⟩,
                ⟨(some 20), .mv (.t 1), none⟩,
                ⟨(some 21), .mv (.t 5), none⟩,
                ⟨(some 22), .iaddr 1 (.t 20) (.t 21), none⟩,
                ⟨(some 23), .load none (.t 22), none⟩,
                ⟨(some 24), .bin .neq (.t 19) (.t 23), none⟩])
              (.cond (.t 24)
               (.seq
                (.reg none [⟨(some 4), .mv (.c (.b false)), none⟩])
                .ret)
               .skip))))
           (.reg none [⟨(some 25), .bin .add (.t 13) (.c (.int .i64 1)), none⟩,
             ⟨(some 13), .mv (.t 25), none⟩])))))))
     (.seq
      (.reg none [⟨(some 4), .mv (.c (.b true)), none⟩])
      .ret)))) }
theorem f25P : prepF C Try.f25 = some f25A := by kernel_rfl

/-- congou/congouref06.Same -/
def f26A : AFunc :=
{ nargs := 2, res := [.t 4], body :=
  (.seq
   (.reg none [⟨(some 4), .mv (.c (.b false)), none⟩])
   (.seq
    (.seq
     (.reg none [⟨(some 9), .mv (.t 0), none⟩,
       ⟨(some 10), .len (.t 9), none⟩,
       ⟨(some 11), .mv (.t 1), none⟩,
       ⟨(some 12), .len (.t 11), none⟩,
       ⟨(some 13), .bin .neq (.t 10) (.t 12), none⟩])
     (.cond (.t 13)
      (.seq
       (.reg none [⟨(some 4), .mv (.c (.b false)), none⟩])
       .ret)
      .skip))
    (.seq
     (.seq
      (.reg none [⟨(some 14), .mv (.t 0), none⟩,
        ⟨(some 15), .len (.t 14), none⟩,
        ⟨(some 16), .mv (.c (.int .i64 0)), none⟩])
      (.block 0
       (.loop
        (.seq
         (.reg none [⟨(some 17), .bin .lss (.t 16) (.t 15), none⟩])
         (.seq
          (.cond (.t 17)
           .skip
           (.exit 0))
          (.seq
           (.block 1
            (.seq
             (.reg none [⟨(some 18), .mv (.t 16), none⟩,
               ⟨(some 19), .iaddr 1 (.t 14) (.t 16), none⟩,
               ⟨(some 20), .load none (.t 19), none⟩,
               ⟨(some 5), .mv (.t 18), none⟩,
               ⟨(some 6), .mv (.t 20), none⟩])
             (.seq
              (.seq
               (.reg none [⟨(some 21), .mv (.t 6), none⟩,
                 ⟨(some 22), .len (.t 21), none⟩,
                 ⟨(some 23), .mv (.t 1), none⟩,
                 ⟨(some 24), .mv (.t 5), none⟩,
                 ⟨(some 25), .iaddr 1 (.t 23) (.t 24), none⟩,
                 ⟨(some 26), .load none (.t 25), none⟩,
                 ⟨(some 27), .len (.t 26), none⟩,
                 ⟨(some 28), .bin .neq (.t 22) (.t 27), none⟩])
               (.cond (.t 28)
                (.seq
                 (.reg none [⟨(some 4), .mv (.c (.b false)), none⟩])
                 .ret)
                .skip))
              (.seq
               (.reg none [⟨(some 29), .mv (.t 6), none⟩,
                 ⟨(some 30), .len (.t 29), none⟩,
                 ⟨(some 31), .mv (.c (.int .i64 0)), none⟩])
               (.block 2
                (.loop
                 (.seq
                  (.reg none [⟨(some 32), .bin .lss (.t 31) (.t 30), none⟩])
                  (.seq
                   (.cond (.t 32)
                    .skip
                    (.exit 2))
                   (.seq
                    (.block 3
                     (.seq
                      (.reg none [⟨(some 33), .mv (.t 31), none⟩,
                        ⟨(some 34), .iaddr 1 (.t 29) (.t 31), none⟩,
                        ⟨(some 35), .load none (.t 34), none⟩,
                        ⟨(some 7), .mv (.t 33), none⟩,
                        ⟨(some 8), .mv (.t 35), none⟩])
                      (.seq
                       (.reg none [⟨(some 36), .mv (.t 8), none⟩,
                         ⟨(some 37), .mv (.t 1), none⟩,
                         ⟨(some 38), .mv (.t 5), none⟩,
                         ⟨(some 39), .iaddr 1 (.t 37) (.t 38), none⟩,
                         ⟨(some 40), .load none (.t 39), none⟩,
                         ⟨(some 41), .mv (.t 7), none⟩,
                         ⟨(some 42), .iaddr 1 (.t 40) (.t 41), none⟩,
                         ⟨(some 43), .load none (.t 42), none⟩,
                         ⟨(some 44), .bin .neq (.t 36) (.t 43), none⟩])
                       (.cond (.t 44)
                        (.seq
                         (.reg none [⟨(some 4), .mv (.c (.b false)), none⟩])
                         .ret)
                        .skip))))
                    (.reg none [⟨(some 45), .bin .add (.t 31) (.c (.int .i64 1)), none⟩,
                      ⟨(some 31), .mv (.t 45), none⟩]))))))))))
           (.reg none [⟨(some 46), .bin .add (.t 16) (.c (.int .i64 1)), none⟩,
             ⟨(some 16), .mv (.t 46), none⟩])))))))
     (.seq
      (.reg none [⟨(some 4), .mv (.c (.b true)), none⟩])
      .ret)))) }
theorem f26P : prepF C Try.f26 = some f26A := by kernel_rfl

/-- congou/congouref06.Turn -/
def f27A : AFunc :=
{ nargs := 1, res := [.t 2], body :=
  (.seq
   (.reg none [⟨(some 2), .mv (.c .nils), none⟩])
   (.seq
    (.reg none [⟨(some 3), .mv (.c .nils), none⟩])
    (.seq
     (.seq
      (.reg none [⟨(some 7), .mv (.t 0), none⟩,
        ⟨(some 8), .iaddr 1 (.t 7) (.c (.int .i64 0)), none⟩,
        ⟨(some 9), .load none (.t 8), none⟩,
        ⟨(some 10), .len (.t 9), none⟩,
        ⟨(some 11), .mv (.c (.int .i64 0)), none⟩])
      (.block 0
       (.loop
        (.seq
         (.reg none [⟨(some 12), .bin .lss (.t 11) (.t 10), none⟩])
         (.seq
          (.cond (.t 12)
           .skip
           (.exit 0))
          (.seq
           (.block 1
            (.seq
             (.reg none [⟨(some 13), .mv (.t 11), none⟩,
               ⟨(some 4), .mv (.t 13), none⟩])
             (.seq
              (.reg none [⟨(some 5), .mv (.c .nils), none⟩])
              (.seq
               (.seq
                (.reg none [⟨(some 14), .mv (.t 0), none⟩,
                  ⟨(some 15), .len (.t 14), none⟩,
                  ⟨(some 16), .mv (.c (.int .i64 0)), none⟩])
                (.block 2
                 (.loop
                  (.seq
                   (.reg none [⟨(some 17), .bin .lss (.t 16) (.t 15), none⟩])
                   (.seq
                    (.cond (.t 17)
                     .skip
                     (.exit 2))
                    (.seq
                     (.block 3
                      (.seq
                       (.reg none [⟨(some 18), .mv (.t 16), none⟩,
                         ⟨(some 6), .mv (.t 18), none⟩])
                       (.reg none [⟨(some 19), .mv (.t 5), none⟩,
                         ⟨(some 20), .mv (.t 0), none⟩,
                         ⟨(some 21), .mv (.t 6), none⟩,
                         ⟨(some 22), .iaddr 1 (.t 20) (.t 21), none⟩,
                         ⟨(some 23), .load none (.t 22), none⟩,
                         ⟨(some 24), .mv (.t 4), none⟩,
                         ⟨(some 25), .iaddr 1 (.t 23) (.t 24), none⟩,
                         ⟨(some 26), .load none (.t 25), none⟩,
                         ⟨(some 27), .bslice [(.int .i64 0)] 1 1 [(0, (.t 26))], none⟩,
                         ⟨(some 28), .append 1 8 (.t 19) (.t 27), none⟩,
                         ⟨(some 5), .mv (.t 28), none⟩])))
                     (.reg none [⟨(some 29), .bin .add (.t 16) (.c (.int .i64 1)), none⟩,
                       ⟨(some 16), .mv (.t 29), none⟩])))))))
               (.reg none [⟨(some 30), .mv (.t 3), none⟩,
                 ⟨(some 31), .mv (.t 5), none⟩,
                 ⟨(some 32), .bslice [.nils] 1 1 [(0, (.t 31))], none⟩,
                 ⟨(some 33), .append 1 24 (.t 30) (.t 32), none⟩,
                 ⟨(some 3), .mv (.t 33), none⟩])))))
           (.reg none [⟨(some 34), .bin .add (.t 11) (.c (.int .i64 1)), none⟩,
             ⟨(some 11), .mv (.t 34), none⟩])))))))
     (.seq
      (.reg none [⟨(some 35), .mv (.t 3), none⟩,
        ⟨(some 2), .mv (.t 35), none⟩])
      .ret)))) }
theorem f27P : prepF C Try.f27 = some f27A := by kernel_rfl

/-- congou/counts.Odds -/
def f28A : AFunc :=
{ nargs := 1, res := [.c 2 (some 2), .t 3], body :=
  (.seq
   (.reg none [⟨(some 2), .alloc [(.int .i64 0), (.int .i64 0)], none⟩,
     ⟨(some 3), .mv (.c (.int .i64 0)), none⟩])
   (.seq
    (.block 0
     (.seq
      (.reg none [⟨(some 5), .mv (.t 0), none⟩,
        ⟨(some 6), .call 72 [(.t 5)], none⟩,
        ⟨(some 7), .un .not (.t 6), none⟩,
        ⟨(some 4), .mv (.t 7), none⟩])
      (.cond (.t 4)
       (.seq
        (.reg none [⟨(some 8), .build [(.int .i64 0), (.int .i64 0)] [], none⟩,
          ⟨none, .store 2 (.t 2) (.t 8), none⟩,
          ⟨(some 3), .mv (.c (.int .i64 2)), none⟩])
        .ret)
       (.seq
        (.reg none [⟨(some 10), .mv (.t 0), none⟩,
          ⟨(some 11), .iaddr 1 (.t 10) (.c (.int .i64 0)), none⟩,
          ⟨(some 12), .load none (.t 11), none⟩,
          ⟨(some 13), .iaddr 1 (.t 12) (.c (.int .i64 1)), none⟩,
          ⟨(some 14), .load none (.t 13), none⟩,
          ⟨(some 15), .bin .eql (.t 14) (.c (.int .i64 0)), none⟩,
          ⟨(some 16), .mv (.t 15), none⟩,
          ⟨(some 17), .mv (.t 0), some (16, false)⟩,
          ⟨(some 18), .iaddr 1 (.t 17) (.c (.int .i64 1)), some (16, false)⟩,
          ⟨(some 19), .load none (.t 18), some (16, false)⟩,
          ⟨(some 20), .iaddr 1 (.t 19) (.c (.int .i64 0)), some (16, false)⟩,
          ⟨(some 21), .load none (.t 20), some (16, false)⟩,
          ⟨(some 22), .bin .eql (.t 21) (.c (.int .i64 0)), some (16, false)⟩,
          ⟨(some 23), .pick (.t 16) (.c (.b true)) (.t 22), none⟩,
          ⟨(some 9), .mv (.t 23), none⟩])
        (.cond (.t 9)
         (.seq
          (.reg none [⟨(some 24), .build [(.int .i64 0), (.int .i64 0)] [], none⟩,
            ⟨none, .store 2 (.t 2) (.t 24), none⟩,
            ⟨(some 3), .mv (.c (.int .i64 5)), none⟩])
          .ret)
         .skip)))))
    (.seq
     (.reg (some []) [⟨(some 25), .mv (.t 0), none⟩,
       ⟨(some 26), .iaddr 1 (.t 25) (.c (.int .i64 0)), none⟩,
       ⟨(some 27), .load none (.t 26), none⟩,
       ⟨(some 28), .iaddr 1 (.t 27) (.c (.int .i64 0)), none⟩,
       ⟨(some 29), .load none (.t 28), none⟩,
       ⟨(some 30), .mv (.t 0), none⟩,
       ⟨(some 31), .iaddr 1 (.t 30) (.c (.int .i64 1)), none⟩,
       ⟨(some 32), .load none (.t 31), none⟩,
       ⟨(some 33), .iaddr 1 (.t 32) (.c (.int .i64 1)), none⟩,
       ⟨(some 34), .load none (.t 33), none⟩,
       ⟨(some 35), .bin .mul (.t 29) (.t 34), none⟩,
       ⟨(some 36), .mv (.t 0), none⟩,
       ⟨(some 37), .iaddr 1 (.t 36) (.c (.int .i64 0)), none⟩,
       ⟨(some 38), .load none (.t 37), none⟩,
       ⟨(some 39), .iaddr 1 (.t 38) (.c (.int .i64 1)), none⟩,
       ⟨(some 40), .load none (.t 39), none⟩,
       ⟨(some 41), .mv (.t 0), none⟩,
       ⟨(some 42), .iaddr 1 (.t 41) (.c (.int .i64 1)), none⟩,
       ⟨(some 43), .load none (.t 42), none⟩,
       ⟨(some 44), .iaddr 1 (.t 43) (.c (.int .i64 0)), none⟩,
       ⟨(some 45), .load none (.t 44), none⟩,
       ⟨(some 46), .bin .mul (.t 40) (.t 45), none⟩,
       ⟨(some 47), .call 73 [(.t 35), (.t 46)], none⟩,
       ⟨none, .store 2 (.t 2) (.t 47), none⟩,
       ⟨(some 3), .mv (.c (.int .i64 0)), none⟩])
     .ret))) }
theorem f28P : prepF C Try.f28 = some f28A := by kernel_rfl

/-- congou/congouref06.Two -/
def f29A : AFunc :=
{ nargs := 1, res := [.t 2], body :=
  (.seq
   (.reg none [⟨(some 2), .mv (.c (.b false)), none⟩])
   (.seq
    (.reg none [⟨(some 3), .mv (.t 0), none⟩,
      ⟨(some 4), .call 22 [(.t 3)], none⟩,
      ⟨(some 5), .mv (.t 4), none⟩,
      ⟨(some 6), .mv (.t 0), some (5, true)⟩,
      ⟨(some 7), .len (.t 6), some (5, true)⟩,
      ⟨(some 8), .bin .eql (.t 7) (.c (.int .i64 2)), some (5, true)⟩,
      ⟨(some 9), .pick (.t 5) (.t 8) (.c (.b false)), none⟩,
      ⟨(some 10), .mv (.t 9), none⟩,
      ⟨(some 11), .mv (.t 0), some (10, true)⟩,
      ⟨(some 12), .iaddr 1 (.t 11) (.c (.int .i64 0)), some (10, true)⟩,
      ⟨(some 13), .load none (.t 12), some (10, true)⟩,
      ⟨(some 14), .len (.t 13), some (10, true)⟩,
      ⟨(some 15), .bin .eql (.t 14) (.c (.int .i64 2)), some (10, true)⟩,
      ⟨(some 16), .pick (.t 10) (.t 15) (.c (.b false)), none⟩,
      ⟨(some 2), .mv (.t 16), none⟩])
    .ret)) }
theorem f29P : prepF C Try.f29 = some f29A := by kernel_rfl

/-- congou/congoulaw06.none -/
def f30A : AFunc :=
{ nargs := 1, res := [.t 2], body :=
  (.seq
   (.reg none [⟨(some 1), .box (.t 0), none⟩,
     ⟨(some 2), .mv (.c (.b false)), none⟩])
   (.seq
    (.reg none [⟨(some 3), .load (some 2) (.t 1), none⟩,
      ⟨(some 4), .build [(.int .i64 0), (.int .i64 0)] [], none⟩,
      ⟨(some 5), .aeq false 2 (.t 3) (.t 4), none⟩,
      ⟨(some 2), .mv (.t 5), none⟩])
    .ret)) }
theorem f30P : prepF C Try.f30 = some f30A := by kernel_rfl

/-- congou/congouref06.Odds -/
def f31A : AFunc :=
{ nargs := 1, res := [.c 2 (some 2), .t 3], body :=
  (.seq
   (.reg none [⟨(some 2), .alloc [(.int .i64 0), (.int .i64 0)], none⟩,
     ⟨(some 3), .mv (.c (.int .i64 0)), none⟩])
   (.seq
    (.seq
     (.reg none [⟨(some 4), .mv (.t 0), none⟩,
       ⟨(some 5), .iaddr 1 (.t 4) (.c (.int .i64 0)), none⟩,
       ⟨(some 6), .load none (.t 5), none⟩,
       ⟨(some 7), .iaddr 1 (.t 6) (.c (.int .i64 1)), none⟩,
       ⟨(some 8), .load none (.t 7), none⟩,
       ⟨(some 9), .bin .eql (.t 8) (.c (.int .i64 0)), none⟩,
       ⟨(some 10), .mv (.t 9), none⟩,
       ⟨(some 11), .mv (.t 0), some (10, false)⟩,
       ⟨(some 12), .iaddr 1 (.t 11) (.c (.int .i64 1)), some (10, false)⟩,
       ⟨(some 13), .load none (.t 12), some (10, false)⟩,
       ⟨(some 14), .iaddr 1 (.t 13) (.c (.int .i64 0)), some (10, false)⟩,
       ⟨(some 15), .load none (.t 14), some (10, false)⟩,
       ⟨(some 16), .bin .eql (.t 15) (.c (.int .i64 0)), some (10, false)⟩,
       ⟨(some 17), .pick (.t 10) (.c (.b true)) (.t 16), none⟩])
     (.cond (.t 17)
      (.seq
       (.reg none [⟨(some 18), .build [(.int .i64 0), (.int .i64 0)] [], none⟩,
         ⟨none, .store 2 (.t 2) (.t 18), none⟩,
         ⟨(some 3), .mv (.c (.int .i64 5)), none⟩])
       .ret)
      .skip))
    (.seq
     (.reg (some []) [⟨(some 19), .mv (.t 0), none⟩,
       ⟨(some 20), .iaddr 1 (.t 19) (.c (.int .i64 0)), none⟩,
       ⟨(some 21), .load none (.t 20), none⟩,
       ⟨(some 22), .iaddr 1 (.t 21) (.c (.int .i64 0)), none⟩,
       ⟨(some 23), .load none (.t 22), none⟩,
       ⟨(some 24), .mv (.t 0), none⟩,
       ⟨(some 25), .iaddr 1 (.t 24) (.c (.int .i64 1)), none⟩,
       ⟨(some 26), .load none (.t 25), none⟩,
       ⟨(some 27), .iaddr 1 (.t 26) (.c (.int .i64 1)), none⟩,
       ⟨(some 28), .load none (.t 27), none⟩,
       ⟨(some 29), .bin .mul (.t 23) (.t 28), none⟩,
       ⟨(some 30), .mv (.t 0), none⟩,
       ⟨(some 31), .iaddr 1 (.t 30) (.c (.int .i64 0)), none⟩,
       ⟨(some 32), .load none (.t 31), none⟩,
       ⟨(some 33), .iaddr 1 (.t 32) (.c (.int .i64 1)), none⟩,
       ⟨(some 34), .load none (.t 33), none⟩,
       ⟨(some 35), .mv (.t 0), none⟩,
       ⟨(some 36), .iaddr 1 (.t 35) (.c (.int .i64 1)), none⟩,
       ⟨(some 37), .load none (.t 36), none⟩,
       ⟨(some 38), .iaddr 1 (.t 37) (.c (.int .i64 0)), none⟩,
       ⟨(some 39), .load none (.t 38), none⟩,
       ⟨(some 40), .bin .mul (.t 34) (.t 39), none⟩,
       ⟨(some 41), .call 55 [(.t 29), (.t 40)], none⟩,
       ⟨none, .store 2 (.t 2) (.t 41), none⟩,
       ⟨(some 3), .mv (.c (.int .i64 0)), none⟩])
     .ret))) }
theorem f31P : prepF C Try.f31 = some f31A := by kernel_rfl

/-- congou/counts.Swap -/
def f32A : AFunc :=
{ nargs := 5, res := [.t 10, .t 11], body :=
  (.seq
   (.reg none [⟨(some 10), .mv (.c .nils), none⟩,
     ⟨(some 11), .mv (.c (.int .i64 0)), none⟩])
   (.seq
    (.seq
     (.reg none [⟨(some 14), .mv (.t 0), none⟩,
       ⟨(some 15), .call 70 [(.t 14)], none⟩,
       ⟨(some 16), .un .not (.t 15), none⟩,
       ⟨(some 17), .mv (.t 16), none⟩,
       ⟨(some 18), .mv (.t 1), some (17, false)⟩,
       ⟨(some 19), .mv (.t 2), some (17, false)⟩,
       ⟨(some 20), .mv (.t 3), some (17, false)⟩,
       ⟨(some 21), .mv (.t 4), some (17, false)⟩,
       ⟨(some 22), .mn [(.t 18), (.t 19), (.t 20), (.t 21)], some (17, false)⟩,
       ⟨(some 23), .bin .lss (.t 22) (.c (.int .i64 0)), some (17, false)⟩,
       ⟨(some 24), .pick (.t 17) (.c (.b true)) (.t 23), none⟩,
       ⟨(some 25), .mv (.t 24), none⟩,
       ⟨(some 26), .mv (.t 1), some (25, false)⟩,
       ⟨(some 27), .mv (.t 2), some (25, false)⟩,
       ⟨(some 28), .mx [(.t 26), (.t 27)], some (25, false)⟩,
       ⟨(some 29), .mv (.t 0), some (25, false)⟩,
       ⟨(some 30), .len (.t 29), some (25, false)⟩,
       ⟨(some 31), .bin .geq (.t 28) (.t 30), some (25, false)⟩,
       ⟨(some 32), .pick (.t 25) (.c (.b true)) (.t 31), none⟩,
       ⟨(some 33), .mv (.t 32), none⟩,
       ⟨(some 34), .mv (.t 3), some (33, false)⟩,
       ⟨(some 35), .mv (.t 4), some (33, false)⟩,
       ⟨(some 36), .mx [(.t 34), (.t 35)], some (33, false)⟩,
       ⟨(some 37), .mv (.t 0), some (33, false)⟩,
       ⟨(some 38), .iaddr 1 (.t 37) (.c (.int .i64 0)), some (33, false)⟩,
       ⟨(some 39), .load none (.t 38), some (33, false)⟩,
       ⟨(some 40), .len (.t 39), some (33, false)⟩,
       ⟨(some 41), .bin .geq (.t 36) (.t 40), some (33, false)⟩,
       ⟨(some 42), .pick (.t 33) (.c (.b true)) (.t 41), none⟩,
       ⟨(some 43), .mv (.t 42), none⟩,
       ⟨(some 44), .mv (.t 1), some (43, false)⟩,
       ⟨(some 45), .mv (.t 2), some (43, false)⟩,
       ⟨(some 46), .bin .eql (.t 44) (.t 45), some (43, false)⟩,
       ⟨(some 47), .pick (.t 43) (.c (.b true)) (.t 46), none⟩,
       ⟨(some 48), .mv (.t 47), none⟩,
       ⟨(some 49), .mv (.t 3), some (48, false)⟩,
       ⟨(some 50), .mv (.t 4), some (48, false)⟩,
       ⟨(some 51), .bin .eql (.t 49) (.t 50), some (48, false)⟩,
       ⟨(some 52), .pick (.t 48) (.c (.b true)) (.t 51), none⟩])
     (.cond (.t 52)
      (.seq
       (.reg none [⟨(some 10), .mv (.c .nils), none⟩,
         ⟨(some 11), .mv (.c (.int .i64 2)), none⟩])
       .ret)
      .skip))
    (.seq
     (.reg none [⟨(some 54), .mv (.t 0), none⟩,
       ⟨(some 55), .mv (.t 1), none⟩,
       ⟨(some 56), .mv (.t 2), none⟩,
       ⟨(some 57), .mv (.t 3), none⟩,
       ⟨(some 58), .mv (.t 4), none⟩,
       ⟨(some 59), .call 74 [(.t 54), (.t 55), (.t 56), (.t 57), (.t 58)], none⟩,
       ⟨(some 53), .mv (.t 59), none⟩,
       ⟨(some 60), .extr (.t 53) 0, none⟩,
       ⟨(some 61), .extr (.t 53) 1, none⟩,
       ⟨(some 12), .mv (.t 60), none⟩,
       ⟨(some 13), .mv (.t 61), none⟩])
     (.seq
      (.seq
       (.reg none [⟨(some 62), .mv (.t 13), none⟩,
         ⟨(some 63), .un .not (.t 62), none⟩])
       (.cond (.t 63)
        (.seq
         (.reg none [⟨(some 10), .mv (.c .nils), none⟩,
           ⟨(some 11), .mv (.c (.int .i64 4)), none⟩])
         .ret)
        .skip))
      (.seq
       (.reg none [⟨(some 64), .mv (.t 12), none⟩,
         ⟨(some 10), .mv (.t 64), none⟩,
         ⟨(some 11), .mv (.c (.int .i64 0)), none⟩])
       .ret))))) }
theorem f32P : prepF C Try.f32 = some f32A := by kernel_rfl

/-- congou/congouref06.Places -/
def f33A : AFunc :=
{ nargs := 5, res := [.t 10], body :=
  (.seq
   (.reg none [⟨(some 10), .mv (.c (.b false)), none⟩])
   (.seq
    (.reg none [⟨(some 11), .mv (.t 1), none⟩,
      ⟨(some 12), .bin .geq (.t 11) (.c (.int .i64 0)), none⟩,
      ⟨(some 13), .mv (.t 12), none⟩,
      ⟨(some 14), .mv (.t 1), some (13, true)⟩,
      ⟨(some 15), .mv (.t 0), some (13, true)⟩,
      ⟨(some 16), .len (.t 15), some (13, true)⟩,
      ⟨(some 17), .bin .lss (.t 14) (.t 16), some (13, true)⟩,
      ⟨(some 18), .pick (.t 13) (.t 17) (.c (.b false)), none⟩,
      ⟨(some 19), .mv (.t 18), none⟩,
      ⟨(some 20), .mv (.t 2), some (19, true)⟩,
      ⟨(some 21), .bin .geq (.t 20) (.c (.int .i64 0)), some (19, true)⟩,
      ⟨(some 22), .pick (.t 19) (.t 21) (.c (.b false)), none⟩,
      ⟨(some 23), .mv (.t 22), none⟩,
      ⟨(some 24), .mv (.t 2), some (23, true)⟩,
      ⟨(some 25), .mv (.t 0), some (23, true)⟩,
      ⟨(some 26), .len (.t 25), some (23, true)⟩,
      ⟨(some 27), .bin .lss (.t 24) (.t 26), some (23, true)⟩,
      ⟨(some 28), .pick (.t 23) (.t 27) (.c (.b false)), none⟩,
      ⟨(some 29), .mv (.t 28), none⟩,
      ⟨(some 30), .mv (.t 1), some (29, true)⟩,
      ⟨(some 31), .mv (.t 2), some (29, true)⟩,
      ⟨(some 32), .bin .neq (.t 30) (.t 31), some (29, true)⟩,
      ⟨(some 33), .pick (.t 29) (.t 32) (.c (.b false)), none⟩,
      ⟨(some 34), .mv (.t 33), none⟩,
      ⟨(some 35), .mv (.t 3), some (34, true)⟩,
      ⟨(some 36), .bin .geq (.t 35) (.c (.int .i64 0)), some (34, true)⟩,
      ⟨(some 37), .pick (.t 34) (.t 36) (.c (.b false)), none⟩,
      ⟨(some 38), .mv (.t 37), none⟩,
      ⟨(some 39), .mv (.t 3), some (38, true)⟩,
      ⟨(some 40), .mv (.t 0), some (38, true)⟩,
      ⟨(some 41), .iaddr 1 (.t 40) (.c (.int .i64 0)), some (38, true)⟩,
      ⟨(some 42), .load none (.t 41), some (38, true)⟩,
      ⟨(some 43), .len (.t 42), some (38, true)⟩,
      ⟨(some 44), .bin .lss (.t 39) (.t 43), some (38, true)⟩,
      ⟨(some 45), .pick (.t 38) (.t 44) (.c (.b false)), none⟩,
      ⟨(some 46), .mv (.t 45), none⟩,
      ⟨(some 47), .mv (.t 4), some (46, true)⟩,
      ⟨(some 48), .bin .geq (.t 47) (.c (.int .i64 0)), some (46, true)⟩,
      ⟨(some 49), .pick (.t 46) (.t 48) (.c (.b false)), none⟩,
      ⟨(some 50), .mv (.t 49), none⟩,
      ⟨(some 51), .mv (.t 4), some (50, true)⟩,
      ⟨(some 52), .mv (.t 0), some (50, true)⟩,
      ⟨(some 53), .iaddr 1 (.t 52) (.c (.int .i64 0)), some (50, true)⟩,
      ⟨(some 54), .load none (.t 53), some (50, true)⟩,
      ⟨(some 55), .len (.t 54), some (50, true)⟩,
      ⟨(some 56), .bin .lss (.t 51) (.t 55), some (50, true)⟩,
      ⟨(some 57), .pick (.t 50) (.t 56) (.c (.b false)), none⟩,
      ⟨(some 58), .mv (.t 57), none⟩,
      ⟨(some 59), .mv (.t 3), some (58, true)⟩,
      ⟨(some 60), .mv (.t 4), some (58, true)⟩,
      ⟨(some 61), .bin .neq (.t 59) (.t 60), some (58, true)⟩,
      ⟨(some 62), .pick (.t 58) (.t 61) (.c (.b false)), none⟩,
      ⟨(some 10), .mv (.t 62), none⟩])
    .ret)) }
theorem f33P : prepF C Try.f33 = some f33A := by kernel_rfl

/-- congou/congouref06.Swap -/
def f34A : AFunc :=
{ nargs := 5, res := [.t 10, .t 11], body :=
  (.seq
   (.reg none [⟨(some 10), .mv (.c .nils), none⟩,
     ⟨(some 11), .mv (.c (.int .i64 0)), none⟩])
   (.seq
    (.seq
     (.reg none [⟨(some 15), .mv (.t 0), none⟩,
       ⟨(some 16), .mv (.t 1), none⟩,
       ⟨(some 17), .iaddr 1 (.t 15) (.t 16), none⟩,
       ⟨(some 18), .load none (.t 17), none⟩,
       ⟨(some 19), .mv (.t 4), none⟩,
       ⟨(some 20), .iaddr 1 (.t 18) (.t 19), none⟩,
       ⟨(some 21), .load none (.t 20), none⟩,
       ⟨(some 22), .bin .eql (.t 21) (.c (.int .i64 0)), none⟩,
       ⟨(some 23), .mv (.t 22), none⟩,
       ⟨(some 24), .mv (.t 0), some (23, false)⟩,
       ⟨(some 25), .mv (.t 2), some (23, false)⟩,
       ⟨(some 26), .iaddr 1 (.t 24) (.t 25), some (23, false)⟩,
       ⟨(some 27), .load none (.t 26), some (23, false)⟩,
       ⟨(some 28), .mv (.t 3), some (23, false)⟩,
       ⟨(some 29), .iaddr 1 (.t 27) (.t 28), some (23, false)⟩,
       ⟨(some 30), .load none (.t 29), some (23, false)⟩,
       ⟨(some 31), .bin .eql (.t 30) (.c (.int .i64 0)), some (23, false)⟩,
       ⟨(some 32), .pick (.t 23) (.c (.b true)) (.t 31), none⟩])
     (.cond (.t 32)
      (.seq
       (.reg none [⟨(some 10), .mv (.c .nils), none⟩,
         ⟨(some 11), .mv (.c (.int .i64 4)), none⟩])
       .ret)
      .skip))
    (.seq
     (.reg none [⟨(some 12), .mv (.c .nils), none⟩])
     (.seq
      (.seq
       (.reg none [⟨(some 33), .mv (.t 0), none⟩,
         ⟨(some 34), .len (.t 33), none⟩,
         ⟨(some 35), .mv (.c (.int .i64 0)), none⟩])
       (.block 0
        (.loop
         (.seq
          (.reg none [⟨(some 36), .bin .lss (.t 35) (.t 34), none⟩])
          (.seq
           (.cond (.t 36)
            .skip
            (.exit 0))
           (.seq
            (.block 1
             (.seq
              (.reg none [⟨(some 37), .iaddr 1 (.t 33) (.t 35), none⟩,
                ⟨(some 38), .load none (.t 37), none⟩,
                ⟨(some 14), .mv (.t 38), none⟩])
              (.reg none [⟨(some 39), .mv (.t 12), none⟩,
                ⟨(some 40), .bslice [(.int .i64 0)] 0 1 [], none⟩,
                ⟨(some 41), .mv (.t 14), none⟩,
                ⟨(some 42), .append 1 8 (.t 40) (.t 41), none⟩,
                ⟨(some 43), .bslice [.nils] 1 1 [(0, (.t 42))], none⟩,
                ⟨(some 44), .append 1 24 (.t 39) (.t 43), none⟩,
                ⟨(some 12), .mv (.t 44), none⟩])))
            (.reg none [⟨(some 45), .bin .add (.t 35) (.c (.int .i64 1)), none⟩,
              ⟨(some 35), .mv (.t 45), none⟩])))))))
      (.seq
       (.reg none [⟨(some 46), .mv (.t 12), none⟩,
         ⟨(some 47), .mv (.t 1), none⟩,
         ⟨(some 48), .iaddr 1 (.t 46) (.t 47), none⟩,
         ⟨(some 49), .load none (.t 48), none⟩,
         ⟨(some 50), .mv (.t 3), none⟩,
         ⟨(some 51), .iaddr 1 (.t 49) (.t 50), none⟩,
         ⟨(some 52), .load none (.t 51), none⟩,
         ⟨(some 53), .bin .add (.t 52) (.c (.int .i64 1)), none⟩,
         ⟨(some 54), .iaddr 1 (.t 49) (.t 50), none⟩,
         ⟨none, .store 1 (.t 54) (.t 53), none⟩])
       (.seq
        (.reg none [⟨(some 55), .mv (.t 12), none⟩,
          ⟨(some 56), .mv (.t 2), none⟩,
          ⟨(some 57), .iaddr 1 (.t 55) (.t 56), none⟩,
          ⟨(some 58), .load none (.t 57), none⟩,
          ⟨(some 59), .mv (.t 4), none⟩,
          ⟨(some 60), .iaddr 1 (.t 58) (.t 59), none⟩,
          ⟨(some 61), .load none (.t 60), none⟩,
          ⟨(some 62), .bin .add (.t 61) (.c (.int .i64 1)), none⟩,
          ⟨(some 63), .iaddr 1 (.t 58) (.t 59), none⟩,
          ⟨none, .store 1 (.t 63) (.t 62), none⟩])
        (.seq
         (.reg none [⟨(some 64), .mv (.t 12), none⟩,
           ⟨(some 65), .mv (.t 1), none⟩,
           ⟨(some 66), .iaddr 1 (.t 64) (.t 65), none⟩,
           ⟨(some 67), .load none (.t 66), none⟩,
           ⟨(some 68), .mv (.t 4), none⟩,
           ⟨(some 69), .iaddr 1 (.t 67) (.t 68), none⟩,
           ⟨(some 70), .load none (.t 69), none⟩,
           ⟨(some 71), .bin .sub (.t 70) (.c (.int .i64 1)), none⟩,
           ⟨(some 72), .iaddr 1 (.t 67) (.t 68), none⟩,
           ⟨none, .store 1 (.t 72) (.t 71), none⟩])
         (.seq
          (.reg none [⟨(some 73), .mv (.t 12), none⟩,
            ⟨(some 74), .mv (.t 2), none⟩,
            ⟨(some 75), .iaddr 1 (.t 73) (.t 74), none⟩,
            ⟨(some 76), .load none (.t 75), none⟩,
            ⟨(some 77), .mv (.t 3), none⟩,
            ⟨(some 78), .iaddr 1 (.t 76) (.t 77), none⟩,
            ⟨(some 79), .load none (.t 78), none⟩,
            ⟨(some 80), .bin .sub (.t 79) (.c (.int .i64 1)), none⟩,
            ⟨(some 81), .iaddr 1 (.t 76) (.t 77), none⟩,
            ⟨none, .store 1 (.t 81) (.t 80), none⟩])
          (.seq
           (.reg none [⟨(some 82), .mv (.t 12), none⟩,
             ⟨(some 10), .mv (.t 82), none⟩,
             ⟨(some 11), .mv (.c (.int .i64 0)), none⟩])
           .ret))))))))) }
theorem f34P : prepF C Try.f34 = some f34A := by kernel_rfl

/-- congou/counts.Off -/
def f35A : AFunc :=
{ nargs := 1, res := [.c 2 (some 2), .t 3], body :=
  (.seq
   (.reg none [⟨(some 2), .alloc [(.int .i64 0), (.int .i64 0)], none⟩,
     ⟨(some 3), .mv (.c (.int .i64 0)), none⟩])
   (.seq
    (.seq
     (.reg none [⟨(some 16), .mv (.t 0), none⟩,
       ⟨(some 17), .call 70 [(.t 16)], none⟩,
       ⟨(some 18), .un .not (.t 17), none⟩])
     (.cond (.t 18)
      (.seq
       (.reg none [⟨(some 19), .build [(.int .i64 0), (.int .i64 0)] [], none⟩,
         ⟨none, .store 2 (.t 2) (.t 19), none⟩,
         ⟨(some 3), .mv (.c (.int .i64 2)), none⟩])
       .ret)
      .skip))
    (.seq
     (.reg none [⟨(some 21), .mv (.t 0), none⟩,
       ⟨(some 22), .call 71 [(.t 21)], none⟩,
       ⟨(some 20), .mv (.t 22), none⟩,
       ⟨(some 23), .extr (.t 20) 0, none⟩,
       ⟨(some 24), .extr (.t 20) 1, none⟩,
       ⟨(some 4), .mv (.t 23), none⟩,
       ⟨(some 5), .mv (.t 24), none⟩])
     (.seq
      (.seq
       (.reg none [⟨(some 25), .mv (.t 4), none⟩,
         ⟨(some 26), .call 75 [(.t 25)], none⟩,
         ⟨(some 27), .bin .eql (.t 26) (.c (.int .i64 0)), none⟩,
         ⟨(some 28), .mv (.t 27), none⟩,
         ⟨(some 29), .mv (.t 5), some (28, false)⟩,
         ⟨(some 30), .call 75 [(.t 29)], some (28, false)⟩,
         ⟨(some 31), .bin .eql (.t 30) (.c (.int .i64 0)), some (28, false)⟩,
         ⟨(some 32), .pick (.t 28) (.c (.b true)) (.t 31), none⟩])
       (.cond (.t 32)
        (.seq
         (.reg none [⟨(some 33), .build [(.int .i64 0), (.int .i64 0)] [], none⟩,
           ⟨none, .store 2 (.t 2) (.t 33), none⟩,
           ⟨(some 3), .mv (.c (.int .i64 5)), none⟩])
         .ret)
        .skip))
      (.seq
       (.reg none [⟨(some 6), .mv (.c (.int .i64 0)), none⟩])
       (.seq
        (.seq
         (.reg none [⟨(some 34), .mv (.t 4), none⟩,
           ⟨(some 35), .len (.t 34), none⟩,
           ⟨(some 36), .mv (.c (.int .i64 0)), none⟩])
         (.block 0
          (.loop
           (.seq
            (.reg none [⟨(some 37), .bin .lss (.t 36) (.t 35), none⟩])
            (.seq
             (.cond (.t 37)
              .skip
              (.exit 0))
             (.seq
              (.block 1
               (.seq
                (.reg none [⟨(some 38), .iaddr 1 (.t 34) (.t 36), none⟩,
                  ⟨(some 39), .load none (.t 38), none⟩,
                  ⟨(some 8), .mv (.t 39), none⟩])
                (.reg none [⟨(some 40), .mv (.t 6), none⟩,
                  ⟨(some 41), .mv (.t 8), none⟩,
                  ⟨(some 42), .bin .add (.t 40) (.t 41), none⟩,
                  ⟨(some 6), .mv (.t 42), none⟩])))
              (.reg none [⟨(some 43), .bin .add (.t 36) (.c (.int .i64 1)), none⟩,
                ⟨(some 36), .mv (.t 43), none⟩])))))))
        (.seq
         (.reg none [⟨(some 44), .call 73 [(.c (.int .i64 0)), (.c (.int .i64 1))], none⟩,
           ⟨(some 9), .alloc [(.int .i64 0), (.int .i64 0)], none⟩,
           ⟨none, .store 2 (.t 9) (.t 44), none⟩])
         (.seq
          (.seq
           (.reg none [⟨(some 45), .mv (.t 0), none⟩,
             ⟨(some 46), .len (.t 45), none⟩,
             ⟨(some 47), .mv (.c (.int .i64 0)), none⟩])
           (.block 2
            (.loop
             (.seq
              (.reg none [⟨(some 48), .bin .lss (.t 47) (.t 46), none⟩])
              (.seq
               (.cond (.t 48)
                .skip
                (.exit 2))
               (.seq
                (.block 3
                 (.seq
                  (.reg none [⟨(some 49), .mv (.t 47), none⟩,
                    ⟨(some 50), .iaddr 1 (.t 45) (.t 47), none⟩,
                    ⟨(some 51), .load none (.t 50), none⟩,
                    ⟨(some 10), .mv (.t 49), none⟩,
                    ⟨(some 11), .mv (.t 51), none⟩])
                  (.seq
                   (.reg none [⟨(some 52), .mv (.t 11), none⟩,
                     ⟨(some 53), .len (.t 52), none⟩,
                     ⟨(some 54), .mv (.c (.int .i64 0)), none⟩])
                   (.block 4
                    (.loop
                     (.seq
                      (.reg none [⟨(some 55), .bin .lss (.t 54) (.t 53), none⟩])
                      (.seq
                       (.cond (.t 55)
                        .skip
                        (.exit 4))
                       (.seq
                        (.block 5
                         (.seq
                          (.reg none [⟨(some 56), .mv (.t 54), none⟩,
                            ⟨(some 57), .iaddr 1 (.t 52) (.t 54), none⟩,
                            ⟨(some 58), .load none (.t 57), none⟩,
                            ⟨(some 12), .mv (.t 56), none⟩,
                            ⟨(some 13), .mv (.t 58), none⟩])
                          (.seq
                           (.reg (some []) [⟨(some 59), .mv (.t 4), none⟩,
                             ⟨(some 60), .mv (.t 10), none⟩,
                             ⟨(some 61), .iaddr 1 (.t 59) (.t 60), none⟩,
                             ⟨(some 62), .load none (.t 61), none⟩,
                             ⟨(some 63), .mv (.t 5), none⟩,
                             ⟨(some 64), .mv (.t 12), none⟩,
                             ⟨(some 65), .iaddr 1 (.t 63) (.t 64), none⟩,
                             ⟨(some 66), .load none (.t 65), none⟩,
                             ⟨(some 67), .bin .mul (.t 62) (.t 66), none⟩,
                             ⟨(some 14), .mv (.t 67), none⟩])
                           (.seq
                            (.reg none [⟨(some 68), .mv (.t 13), none⟩,
                              ⟨(some 69), .mv (.t 6), none⟩,
                              ⟨(some 70), .bin .mul (.t 68) (.t 69), none⟩,
                              ⟨(some 71), .mv (.t 14), none⟩,
                              ⟨(some 72), .bin .sub (.t 70) (.t 71), none⟩,
                              ⟨(some 15), .mv (.t 72), none⟩])
                            (.reg (some []) [⟨(some 73), .load (some 2) (.t 9), none⟩,
                              ⟨(some 74), .mv (.t 15), none⟩,
                              ⟨(some 75), .mv (.t 15), none⟩,
                              ⟨(some 76), .bin .mul (.t 74) (.t 75), none⟩,
                              ⟨(some 77), .mv (.t 14), none⟩,
                              ⟨(some 78), .mv (.t 6), none⟩,
                              ⟨(some 79), .bin .mul (.t 77) (.t 78), none⟩,
                              ⟨(some 80), .call 73 [(.t 76), (.t 79)], none⟩,
                              ⟨(some 81), .call 76 [(.t 73), (.t 80)], none⟩,
                              ⟨none, .store 2 (.t 9) (.t 81), none⟩])))))
                        (.reg none [⟨(some 82), .bin .add (.t 54) (.c (.int .i64 1)), none⟩,
                          ⟨(some 54), .mv (.t 82), none⟩])))))))))
                (.reg none [⟨(some 83), .bin .add (.t 47) (.c (.int .i64 1)), none⟩,
                  ⟨(some 47), .mv (.t 83), none⟩])))))))
          (.seq
           (.reg none [⟨(some 84), .load (some 2) (.t 9), none⟩,
             ⟨none, .store 2 (.t 2) (.t 84), none⟩,
             ⟨(some 3), .mv (.c (.int .i64 0)), none⟩])
           .ret))))))))) }
theorem f35P : prepF C Try.f35 = some f35A := by kernel_rfl

/-- congou/congouref06.Off -/
def f36A : AFunc :=
{ nargs := 1, res := [.c 2 (some 2), .t 3], body :=
  (.seq
   (.reg none [⟨(some 2), .alloc [(.int .i64 0), (.int .i64 0)], none⟩,
     ⟨(some 3), .mv (.c (.int .i64 0)), none⟩])
   (.seq
    (.reg none [⟨(some 17), .mv (.t 0), none⟩,
      ⟨(some 18), .call 24 [(.t 17)], none⟩,
      ⟨(some 16), .mv (.t 18), none⟩,
      ⟨(some 19), .extr (.t 16) 0, none⟩,
      ⟨(some 20), .extr (.t 16) 1, none⟩,
      ⟨(some 4), .mv (.t 19), none⟩,
      ⟨(some 5), .mv (.t 20), none⟩])
    (.seq
     (.reg none [⟨(some 21), .mv (.t 4), none⟩,
       ⟨(some 22), .call 77 [(.t 21)], none⟩,
       ⟨(some 6), .mv (.t 22), none⟩])
     (.seq
      (.reg none [⟨(some 7), .mv (.c (.int .i64 1)), none⟩])
      (.seq
       (.seq
        (.reg none [⟨(some 23), .mv (.t 6), none⟩,
          ⟨(some 24), .bslice [(.int .i64 0)] 1 1 [(0, (.t 23))], none⟩,
          ⟨(some 25), .mv (.t 4), none⟩,
          ⟨(some 26), .append 1 8 (.t 24) (.t 25), none⟩,
          ⟨(some 27), .mv (.t 5), none⟩,
          ⟨(some 28), .append 1 8 (.t 26) (.t 27), none⟩,
          ⟨(some 29), .len (.t 28), none⟩,
          ⟨(some 30), .mv (.c (.int .i64 0)), none⟩])
        (.block 0
         (.loop
          (.seq
           (.reg none [⟨(some 31), .bin .lss (.t 30) (.t 29), none⟩])
           (.seq
            (.cond (.t 31)
             .skip
             (.exit 0))
            (.seq
             (.block 1
              (.seq
               (.reg none [⟨(some 32), .iaddr 1 (.t 28) (.t 30), none⟩,
                 ⟨(some 33), .load none (.t 32), none⟩,
                 ⟨(some 9), .mv (.t 33), none⟩])
               (.seq
                (.seq
                 (.reg none [⟨(some 34), .mv (.t 9), none⟩,
                   ⟨(some 35), .bin .eql (.t 34) (.c (.int .i64 0)), none⟩])
                 (.cond (.t 35)
                  (.seq
                   (.reg none [⟨(some 36), .build [(.int .i64 0), (.int .i64 0)] [], none⟩,
                     ⟨none, .store 2 (.t 2) (.t 36), none⟩,
                     ⟨(some 3), .mv (.c (.int .i64 5)), none⟩])
                   .ret)
                  .skip))
                (.reg none [⟨(some 37), .mv (.t 7), none⟩,
                  ⟨(some 38), .mv (.t 9), none⟩,
                  ⟨(some 39), .bin .mul (.t 37) (.t 38), none⟩,
                  ⟨(some 7), .mv (.t 39), none⟩]))))
             (.reg none [⟨(some 40), .bin .add (.t 30) (.c (.int .i64 1)), none⟩,
               ⟨(some 30), .mv (.t 40), none⟩])))))))
       (.seq
        (.reg none [⟨(some 10), .mv (.c (.int .i64 0)), none⟩])
        (.seq
         (.seq
          (.reg none [⟨(some 41), .mv (.t 0), none⟩,
            ⟨(some 42), .len (.t 41), none⟩,
            ⟨(some 43), .mv (.c (.int .i64 0)), none⟩])
          (.block 2
           (.loop
            (.seq
             (.reg none [⟨(some 44), .bin .lss (.t 43) (.t 42), none⟩])
             (.seq
              (.cond (.t 44)
               .skip
               (.exit 2))
              (.seq
               (.block 3
                (.seq
                 (.reg none [⟨(some 45), .mv (.t 43), none⟩,
                   ⟨(some 46), .iaddr 1 (.t 41) (.t 43), none⟩,
                   ⟨(some 47), .load none (.t 46), none⟩,
                   ⟨(some 11), .mv (.t 45), none⟩,
                   ⟨(some 12), .mv (.t 47), none⟩])
                 (.seq
                  (.reg none [⟨(some 48), .mv (.t 12), none⟩,
                    ⟨(some 49), .len (.t 48), none⟩,
                    ⟨(some 50), .mv (.c (.int .i64 0)), none⟩])
                  (.block 4
                   (.loop
                    (.seq
                     (.reg none [⟨(some 51), .bin .lss (.t 50) (.t 49), none⟩])
                     (.seq
                      (.cond (.t 51)
                       .skip
                       (.exit 4))
                      (.seq
                       (.block 5
                        (.seq
                         (.reg none [⟨(some 52), .mv (.t 50), none⟩,
                           ⟨(some 53), .iaddr 1 (.t 48) (.t 50), none⟩,
                           ⟨(some 54), .load none (.t 53), none⟩,
                           ⟨(some 13), .mv (.t 52), none⟩,
                           ⟨(some 14), .mv (.t 54), none⟩])
                         (.seq
                          (.reg (some []) [⟨(some 55), .mv (.t 14), none⟩,
                            ⟨(some 56), .mv (.t 6), none⟩,
                            ⟨(some 57), .bin .mul (.t 55) (.t 56), none⟩,
                            ⟨(some 58), .mv (.t 4), none⟩,
                            ⟨(some 59), .mv (.t 11), none⟩,
                            ⟨(some 60), .iaddr 1 (.t 58) (.t 59), none⟩,
                            ⟨(some 61), .load none (.t 60), none⟩,
                            ⟨(some 62), .mv (.t 5), none⟩,
                            ⟨(some 63), .mv (.t 13), none⟩,
                            ⟨(some 64), .iaddr 1 (.t 62) (.t 63), none⟩,
                            ⟨(some 65), .load none (.t 64), none⟩,
                            ⟨(some 66), .bin .mul (.t 61) (.t 65), none⟩,
                            ⟨(some 67), .bin .sub (.t 57) (.t 66), none⟩,
                            ⟨(some 15), .mv (.t 67), none⟩])
                          (.reg (some []) [⟨(some 68), .mv (.t 10), none⟩,
                            ⟨(some 69), .mv (.t 7), none⟩,
                            ⟨(some 70), .mv (.t 6), none⟩,
                            ⟨(some 71), .mv (.t 4), none⟩,
                            ⟨(some 72), .mv (.t 11), none⟩,
                            ⟨(some 73), .iaddr 1 (.t 71) (.t 72), none⟩,
                            ⟨(some 74), .load none (.t 73), none⟩,
                            ⟨(some 75), .bin .mul (.t 70) (.t 74), none⟩,
                            ⟨(some 76), .mv (.t 5), none⟩,
                            ⟨(some 77), .mv (.t 13), none⟩,
                            ⟨(some 78), .iaddr 1 (.t 76) (.t 77), none⟩,
                            ⟨(some 79), .load none (.t 78), none⟩,
                            ⟨(some 80), .bin .mul (.t 75) (.t 79), none⟩,
                            ⟨(some 81), .bin .quo (.t 69) (.t 80), none⟩,
                            ⟨(some 82), .mv (.t 15), none⟩,
                            ⟨(some 83), .bin .mul (.t 81) (.t 82), none⟩,
                            ⟨(some 84), .mv (.t 15), none⟩,
                            ⟨(some 85), .bin .mul (.t 83) (.t 84), none⟩,
                            ⟨(some 86), .bin .add (.t 68) (.t 85), none⟩,
                            ⟨(some 10), .mv (.t 86), none⟩]))))
                       (.reg none [⟨(some 87), .bin .add (.t 50) (.c (.int .i64 1)), none⟩,
                         ⟨(some 50), .mv (.t 87), none⟩])))))))))
               (.reg none [⟨(some 88), .bin .add (.t 43) (.c (.int .i64 1)), none⟩,
                 ⟨(some 43), .mv (.t 88), none⟩])))))))
         (.seq
          (.reg none [⟨(some 89), .mv (.t 10), none⟩,
            ⟨(some 90), .mv (.t 7), none⟩,
            ⟨(some 91), .call 55 [(.t 89), (.t 90)], none⟩,
            ⟨none, .store 2 (.t 2) (.t 91), none⟩,
            ⟨(some 3), .mv (.c (.int .i64 0)), none⟩])
          .ret)))))))) }
theorem f36P : prepF C Try.f36 = some f36A := by kernel_rfl

/-- slices.Contains[[]int,int] -/
def f37A : AFunc :=
{ nargs := 2, res := [.t 4], body :=
  (.seq
   (.reg none [⟨(some 4), .mv (.c (.b false)), none⟩])
   (.seq
    (.reg none [⟨(some 5), .mv (.t 0), none⟩,
      ⟨(some 6), .mv (.t 1), none⟩,
      ⟨(some 7), .call 78 [(.t 5), (.t 6)], none⟩,
      ⟨(some 8), .bin .geq (.t 7) (.c (.int .i64 0)), none⟩,
      ⟨(some 4), .mv (.t 8), none⟩])
    .ret)) }
theorem f37P : prepF C Try.f37 = some f37A := by kernel_rfl

/-- congou/counts.Count -/
def f38A : AFunc :=
{ nargs := 2, res := [.t 4, .t 5], body :=
  (.seq
   (.reg none [⟨(some 4), .mv (.c (.int .i64 0)), none⟩,
     ⟨(some 5), .mv (.c (.int .i64 0)), none⟩])
   (.seq
    (.seq
     (.reg none [⟨(some 9), .mv (.t 0), none⟩,
       ⟨(some 10), .mv (.t 1), none⟩,
       ⟨(some 11), .bslice [.nils] 2 1 [(0, (.t 9)), (1, (.t 10))], none⟩,
       ⟨(some 12), .len (.t 11), none⟩,
       ⟨(some 13), .mv (.c (.int .i64 0)), none⟩])
     (.block 0
      (.loop
       (.seq
        (.reg none [⟨(some 14), .bin .lss (.t 13) (.t 12), none⟩])
        (.seq
         (.cond (.t 14)
          .skip
          (.exit 0))
         (.seq
          (.block 1
           (.seq
            (.reg none [⟨(some 15), .iaddr 1 (.t 11) (.t 13), none⟩,
              ⟨(some 16), .load none (.t 15), none⟩,
              ⟨(some 7), .mv (.t 16), none⟩])
            (.seq
             (.reg none [⟨(some 17), .mv (.t 7), none⟩,
               ⟨(some 18), .len (.t 17), none⟩,
               ⟨(some 19), .bin .lss (.t 18) (.c (.int .i64 1)), none⟩,
               ⟨(some 20), .mv (.t 19), none⟩,
               ⟨(some 21), .mv (.t 7), some (20, false)⟩,
               ⟨(some 22), .len (.t 21), some (20, false)⟩,
               ⟨(some 23), .bin .gtr (.t 22) (.c (.int .i64 3)), some (20, false)⟩,
               ⟨(some 24), .pick (.t 20) (.c (.b true)) (.t 23), none⟩,
               ⟨(some 25), .mv (.t 24), none⟩,
               ⟨(some 26), .mv (.t 7), some (25, false)⟩,
               ⟨(some 27), .call 79 [(.t 26)], some (25, false)⟩,
               ⟨(some 28), .un .not (.t 27), some (25, false)⟩,
               ⟨(some 29), .pick (.t 25) (.c (.b true)) (.t 28), none⟩])
             (.cond (.t 29)
              (.seq
               (.reg none [⟨(some 4), .mv (.c (.int .i64 0)), none⟩,
                 ⟨(some 5), .mv (.c (.int .i64 2)), none⟩])
               .ret)
              .skip))))
          (.reg none [⟨(some 30), .bin .add (.t 13) (.c (.int .i64 1)), none⟩,
            ⟨(some 13), .mv (.t 30), none⟩])))))))
    (.seq
     (.reg none [⟨(some 8), .alloc [(.int .i64 0)], none⟩,
       ⟨none, .store 1 (.t 8) (.c (.int .i64 0)), none⟩])
     (.seq
      (.seq
       (.reg none [⟨(some 31), .mv (.t 0), none⟩,
         ⟨(some 32), .mv (.t 1), none⟩,
         ⟨(some 33), .build [.nils, .nils] [(0, 1, (.t 31)), (1, 1, (.t 32))], none⟩,
         ⟨(some 34), .mkfn 80 [(.t 33)] [], none⟩])
       (.block 2
        (.rangeF 39 (.t 34) [35]
         .skip
         (.block 3
          (.reg none [⟨(some 36), .load none (.t 8), none⟩,
            ⟨(some 37), .bin .add (.t 36) (.c (.int .i64 1)), none⟩,
            ⟨none, .store 1 (.t 8) (.t 37), none⟩])))))
      (.seq
       (.reg none [⟨(some 38), .load none (.t 8), none⟩,
         ⟨(some 4), .mv (.t 38), none⟩,
         ⟨(some 5), .mv (.c (.int .i64 0)), none⟩])
       .ret))))) }
theorem f38P : prepF C Try.f38 = some f38A := by kernel_rfl

/-- congou/congoulaw06.list -/
def f39A : AFunc :=
{ nargs := 1, res := [.t 2], body :=
  (.seq
   (.reg none [⟨(some 2), .mv (.c .nils), none⟩])
   (.seq
    (.reg none [⟨(some 3), .mv (.t 0), none⟩,
      ⟨(some 4), .mv (.t 0), none⟩,
      ⟨(some 5), .len (.t 4), none⟩,
      ⟨(some 6), .mn [(.t 5), (.c (.int .i64 6))], none⟩,
      ⟨(some 7), .slice 1 (.t 3) none (some (.t 6)) none, none⟩,
      ⟨(some 8), .call 56 [(.t 7)], none⟩,
      ⟨(some 2), .mv (.t 8), none⟩])
    .ret)) }
theorem f39P : prepF C Try.f39 = some f39A := by kernel_rfl

/-- congou/congouref06.Margin -/
def f40A : AFunc :=
{ nargs := 1, res := [.t 2], body :=
  (.seq
   (.reg none [⟨(some 2), .mv (.c (.b false)), none⟩])
   (.seq
    (.seq
     (.reg none [⟨(some 5), .mv (.t 0), none⟩,
       ⟨(some 6), .len (.t 5), none⟩,
       ⟨(some 7), .mv (.c (.int .i64 0)), none⟩])
     (.block 0
      (.loop
       (.seq
        (.reg none [⟨(some 8), .bin .lss (.t 7) (.t 6), none⟩])
        (.seq
         (.cond (.t 8)
          .skip
          (.exit 0))
         (.seq
          (.block 1
           (.seq
            (.reg none [⟨(some 9), .iaddr 1 (.t 5) (.t 7), none⟩,
              ⟨(some 10), .load none (.t 9), none⟩,
              ⟨(some 4), .mv (.t 10), none⟩])
            (.seq
             (.reg none [⟨(some 11), .mv (.t 4), none⟩,
               ⟨(some 12), .bin .lss (.t 11) (.c (.int .i64 0)), none⟩,
               ⟨(some 13), .mv (.t 12), none⟩,
               ⟨(some 14), .mv (.t 4), some (13, false)⟩,
               ⟨(some 15), .bin .gtr (.t 14) (.c (.int .i64 16)), some (13, false)⟩,
               ⟨(some 16), .pick (.t 13) (.c (.b true)) (.t 15), none⟩])
             (.cond (.t 16)
              (.seq
               (.reg none [⟨(some 2), .mv (.c (.b false)), none⟩])
               .ret)
              .skip))))
          (.reg none [⟨(some 17), .bin .add (.t 7) (.c (.int .i64 1)), none⟩,
            ⟨(some 7), .mv (.t 17), none⟩])))))))
    (.seq
     (.reg none [⟨(some 18), .mv (.t 0), none⟩,
       ⟨(some 19), .len (.t 18), none⟩,
       ⟨(some 20), .bin .geq (.t 19) (.c (.int .i64 1)), none⟩,
       ⟨(some 21), .mv (.t 20), none⟩,
       ⟨(some 22), .mv (.t 0), some (21, true)⟩,
       ⟨(some 23), .len (.t 22), some (21, true)⟩,
       ⟨(some 24), .bin .leq (.t 23) (.c (.int .i64 3)), some (21, true)⟩,
       ⟨(some 25), .pick (.t 21) (.t 24) (.c (.b false)), none⟩,
       ⟨(some 26), .mv (.t 25), none⟩,
       ⟨(some 27), .mv (.t 0), some (26, true)⟩,
       ⟨(some 28), .call 77 [(.t 27)], some (26, true)⟩,
       ⟨(some 29), .bin .leq (.t 28) (.c (.int .i64 16)), some (26, true)⟩,
       ⟨(some 30), .pick (.t 26) (.t 29) (.c (.b false)), none⟩,
       ⟨(some 2), .mv (.t 30), none⟩])
     .ret))) }
theorem f40P : prepF C Try.f40 = some f40A := by kernel_rfl

/-- congou/congouref06.Tables -/
def f41A : AFunc :=
{ nargs := 2, res := [.t 4], body :=
  (.seq
   (.reg none [⟨(some 4), .mv (.c .nils), none⟩])
   (.seq
    (.seq
     (.reg none [⟨(some 13), .mv (.t 0), none⟩,
       ⟨(some 14), .len (.t 13), none⟩,
       ⟨(some 15), .bin .eql (.t 14) (.c (.int .i64 0)), none⟩])
     (.cond (.t 15)
      (.seq
       (.seq
        (.reg none [⟨(some 16), .mv (.t 1), none⟩,
          ⟨(some 17), .call 77 [(.t 16)], none⟩,
          ⟨(some 18), .bin .eql (.t 17) (.c (.int .i64 0)), none⟩])
        (.cond (.t 18)
         (.seq
          (.reg none [⟨(some 19), .bslice [.nils] 1 1 [(0, (.c .nils))], none⟩,
            ⟨(some 4), .mv (.t 19), none⟩])
          .ret)
         .skip))
       (.seq
        (.reg none [⟨(some 4), .mv (.c .nils), none⟩])
        .ret))
      .skip))
    (.seq
     (.reg none [⟨(some 5), .mv (.c .nils), none⟩])
     (.seq
      (.seq
       (.reg none [⟨(some 20), .mv (.t 0), none⟩,
         ⟨(some 21), .iaddr 1 (.t 20) (.c (.int .i64 0)), none⟩,
         ⟨(some 22), .load none (.t 21), none⟩,
         ⟨(some 23), .mv (.t 1), none⟩,
         ⟨(some 24), .call 81 [(.t 22), (.t 23)], none⟩,
         ⟨(some 25), .len (.t 24), none⟩,
         ⟨(some 26), .mv (.c (.int .i64 0)), none⟩])
       (.block 0
        (.loop
         (.seq
          (.reg none [⟨(some 27), .bin .lss (.t 26) (.t 25), none⟩])
          (.seq
           (.cond (.t 27)
            .skip
            (.exit 0))
           (.seq
            (.block 1
             (.seq
              (.reg none [⟨(some 28), .iaddr 1 (.t 24) (.t 26), none⟩,
                ⟨(some 29), .load none (.t 28), none⟩,
                ⟨(some 7), .mv (.t 29), none⟩])
              (.seq
               (.reg none [⟨(some 30), .bslice [(.int .i64 0)] 0 1 [], none⟩,
                 ⟨(some 31), .mv (.t 1), none⟩,
                 ⟨(some 32), .append 1 8 (.t 30) (.t 31), none⟩,
                 ⟨(some 8), .mv (.t 32), none⟩])
               (.seq
                (.seq
                 (.reg none [⟨(some 33), .mv (.t 7), none⟩,
                   ⟨(some 34), .len (.t 33), none⟩,
                   ⟨(some 35), .mv (.c (.int .i64 0)), none⟩])
                 (.block 2
                  (.loop
                   (.seq
                    (.reg none [⟨(some 36), .bin .lss (.t 35) (.t 34), none⟩])
                    (.seq
                     (.cond (.t 36)
                      .skip
                      (.exit 2))
                     (.seq
                      (.block 3
                       (.seq
                        (.reg none [⟨(some 37), .mv (.t 35), none⟩,
                          ⟨(some 38), .iaddr 1 (.t 33) (.t 35), none⟩,
                          ⟨(some 39), .load none (.t 38), none⟩,
                          ⟨(some 9), .mv (.t 37), none⟩,
                          ⟨(some 10), .mv (.t 39), none⟩])
                        (.reg none [⟨(some 40), .mv (.t 8), none⟩,
                          ⟨(some 41), .mv (.t 9), none⟩,
                          ⟨(some 42), .iaddr 1 (.t 40) (.t 41), none⟩,
                          ⟨(some 43), .load none (.t 42), none⟩,
                          ⟨(some 44), .mv (.t 10), none⟩,
                          ⟨(some 45), .bin .sub (.t 43) (.t 44), none⟩,
                          ⟨(some 46), .iaddr 1 (.t 40) (.t 41), none⟩,
                          ⟨none, .store 1 (.t 46) (.t 45), none⟩])))
                      (.reg none [⟨(some 47), .bin .add (.t 35) (.c (.int .i64 1)), none⟩,
                        ⟨(some 35), .mv (.t 47), none⟩])))))))
                (.seq
                 (.reg none [⟨(some 48), .mv (.t 0), none⟩,
                   ⟨(some 49), .slice 1 (.t 48) (some (.c (.int .i64 1))) none none, none⟩,
                   ⟨(some 50), .mv (.t 8), none⟩,
                   ⟨(some 51), .call 41 [(.t 49), (.t 50)], none⟩,
                   ⟨(some 52), .len (.t 51), none⟩,
                   ⟨(some 53), .mv (.c (.int .i64 0)), none⟩])
                 (.block 4
                  (.loop
                   (.seq
                    (.reg none [⟨(some 54), .bin .lss (.t 53) (.t 52), none⟩])
                    (.seq
                     (.cond (.t 54)
                      .skip
                      (.exit 4))
                     (.seq
                      (.block 5
                       (.seq
                        (.reg none [⟨(some 55), .iaddr 1 (.t 51) (.t 53), none⟩,
                          ⟨(some 56), .load none (.t 55), none⟩,
                          ⟨(some 12), .mv (.t 56), none⟩])
                        (.reg none [⟨(some 57), .mv (.t 5), none⟩,
                          ⟨(some 58), .mv (.t 7), none⟩,
                          ⟨(some 59), .bslice [.nils] 1 1 [(0, (.t 58))], none⟩,
                          ⟨(some 60), .mv (.t 12), none⟩,
                          ⟨(some 61), .append 1 24 (.t 59) (.t 60), none⟩,
                          ⟨(some 62), .bslice [.nils] 1 1 [(0, (.t 61))], none⟩,
                          ⟨(some 63), .append 1 24 (.t 57) (.t 62), none⟩,
                          ⟨(some 5), .mv (.t 63), none⟩])))
                      (.reg none [⟨(some 64), .bin .add (.t 53) (.c (.int .i64 1)), none⟩,
                        ⟨(some 53), .mv (.t 64), none⟩])))))))))))
            (.reg none [⟨(some 65), .bin .add (.t 26) (.c (.int .i64 1)), none⟩,
              ⟨(some 26), .mv (.t 65), none⟩])))))))
      (.seq
       (.reg none [⟨(some 66), .mv (.t 5), none⟩,
         ⟨(some 4), .mv (.t 66), none⟩])
       .ret))))) }
theorem f41P : prepF C Try.f41 = some f41A := by kernel_rfl

/-- congou/counts.Family -/
def f42A : AFunc :=
{ nargs := 1, res := [.t 2, .t 3], body :=
  (.seq
   (.reg none [⟨(some 2), .mv (.c .nils), none⟩,
     ⟨(some 3), .mv (.c (.int .i64 0)), none⟩])
   (.seq
    (.seq
     (.reg none [⟨(some 6), .mv (.t 0), none⟩,
       ⟨(some 7), .call 70 [(.t 6)], none⟩,
       ⟨(some 8), .un .not (.t 7), none⟩])
     (.cond (.t 8)
      (.seq
       (.reg none [⟨(some 2), .mv (.c .nils), none⟩,
         ⟨(some 3), .mv (.c (.int .i64 2)), none⟩])
       .ret)
      .skip))
    (.seq
     (.reg none [⟨(some 4), .alloc [.nils], none⟩])
     (.seq
      (.seq
       (.reg none [⟨(some 9), .mv (.t 0), none⟩,
         ⟨(some 10), .call 82 [(.t 9)], none⟩,
         ⟨(some 11), .mkfn 80 [(.t 10)] [], none⟩])
       (.block 0
        (.rangeF 18 (.t 11) [12]
         (.reg none [⟨(some 5), .mv (.t 12), none⟩])
         (.block 1
          (.reg none [⟨(some 13), .load none (.t 4), none⟩,
            ⟨(some 14), .mv (.t 5), none⟩,
            ⟨(some 15), .bslice [.nils] 1 1 [(0, (.t 14))], none⟩,
            ⟨(some 16), .append 1 24 (.t 13) (.t 15), none⟩,
            ⟨none, .store 1 (.t 4) (.t 16), none⟩])))))
      (.seq
       (.reg none [⟨(some 17), .load none (.t 4), none⟩,
         ⟨(some 2), .mv (.t 17), none⟩,
         ⟨(some 3), .mv (.c (.int .i64 0)), none⟩])
       .ret))))) }
theorem f42P : prepF C Try.f42 = some f42A := by kernel_rfl

/-- congou/congoulaw06.equal -/
def f43A : AFunc :=
{ nargs := 2, res := [.t 4], body :=
  (.seq
   (.reg none [⟨(some 4), .mv (.c (.b false)), none⟩])
   (.seq
    (.reg none [⟨(some 5), .mv (.t 0), none⟩,
      ⟨(some 6), .mv (.t 1), none⟩,
      ⟨(some 7), .call 83 [(.t 5), (.t 6), (.c (.fn 26 [] []))], none⟩,
      ⟨(some 4), .mv (.t 7), none⟩])
    .ret)) }
theorem f43P : prepF C Try.f43 = some f43A := by kernel_rfl

/-- congou/congouref06.Family -/
def f44A : AFunc :=
{ nargs := 1, res := [.t 2], body :=
  (.seq
   (.reg none [⟨(some 2), .mv (.c .nils), none⟩])
   (.seq
    (.reg none [⟨(some 3), .mv (.t 0), none⟩,
      ⟨(some 4), .call 24 [(.t 3)], none⟩,
      ⟨(some 5), .extr (.t 4) 0, none⟩,
      ⟨(some 6), .extr (.t 4) 1, none⟩,
      ⟨(some 7), .call 41 [(.t 5), (.t 6)], none⟩,
      ⟨(some 2), .mv (.t 7), none⟩])
    .ret)) }
theorem f44P : prepF C Try.f44 = some f44A := by kernel_rfl

/-- congou/counts.Plus -/
def f45A : AFunc :=
{ nargs := 2, res := [.t 4, .t 5], body :=
  (.seq
   (.reg none [⟨(some 4), .mv (.c .nils), none⟩,
     ⟨(some 5), .mv (.c (.int .i64 0)), none⟩])
   (.seq
    (.seq
     (.reg (some []) [⟨(some 11), .mv (.t 0), none⟩,
       ⟨(some 12), .call 70 [(.t 11)], none⟩,
       ⟨(some 13), .un .not (.t 12), none⟩,
       ⟨(some 14), .mv (.t 13), none⟩,
       ⟨(some 15), .mv (.t 1), some (14, false)⟩,
       ⟨(some 16), .call 70 [(.t 15)], some (14, false)⟩,
       ⟨(some 17), .un .not (.t 16), some (14, false)⟩,
       ⟨(some 18), .pick (.t 14) (.c (.b true)) (.t 17), none⟩,
       ⟨(some 19), .mv (.t 18), none⟩,
       ⟨(some 20), .mv (.t 0), some (19, false)⟩,
       ⟨(some 21), .len (.t 20), some (19, false)⟩,
       ⟨(some 22), .mv (.t 1), some (19, false)⟩,
       ⟨(some 23), .len (.t 22), some (19, false)⟩,
       ⟨(some 24), .bin .neq (.t 21) (.t 23), some (19, false)⟩,
       ⟨(some 25), .pick (.t 19) (.c (.b true)) (.t 24), none⟩,
       ⟨(some 26), .mv (.t 25), none⟩,
       ⟨(some 27), .mv (.t 0), some (26, false)⟩,
       ⟨(some 28), .iaddr 1 (.t 27) (.c (.int .i64 0)), some (26, false)⟩,
       ⟨(some 29), .load none (.t 28), some (26, false)⟩,
       ⟨(some 30), .len (.t 29), some (26, false)⟩,
       ⟨(some 31), .mv (.t 1), some (26, false)⟩,
       ⟨(some 32), .iaddr 1 (.t 31) (.c (.int .i64 0)), some (26, false)⟩,
       ⟨(some 33), .load none (.t 32), some (26, false)⟩,
       ⟨(some 34), .len (.t 33), some (26, false)⟩,
       ⟨(some 35), .bin .neq (.t 30) (.t 34), some (26, false)⟩,
       ⟨(some 36), .pick (.t 26) (.c (.b true)) (.t 35), none⟩])
     (.cond (.t 36)
      (.seq
       (.reg none [⟨(some 4), .mv (.c .nils), none⟩,
         ⟨(some 5), .mv (.c (.int .i64 2)), none⟩])
       .ret)
      .skip))
    (.seq
     (.reg none [⟨(some 37), .mv (.t 0), none⟩,
       ⟨(some 38), .call 84 [(.t 37)], none⟩,
       ⟨(some 6), .mv (.t 38), none⟩])
     (.seq
      (.seq
       (.reg none [⟨(some 39), .mv (.t 1), none⟩,
         ⟨(some 40), .len (.t 39), none⟩,
         ⟨(some 41), .mv (.c (.int .i64 0)), none⟩])
       (.block 0
        (.loop
         (.seq
          (.reg none [⟨(some 42), .bin .lss (.t 41) (.t 40), none⟩])
          (.seq
           (.cond (.t 42)
            .skip
            (.exit 0))
           (.seq
            (.block 1
             (.seq
              (.reg none [⟨(some 43), .mv (.t 41), none⟩,
                ⟨(some 44), .iaddr 1 (.t 39) (.t 41), none⟩,
                ⟨(some 45), .load none (.t 44), none⟩,
                ⟨(some 7), .mv (.t 43), none⟩,
                ⟨(some 8), .mv (.t 45), none⟩])
              (.seq
               (.reg none [⟨(some 46), .mv (.t 8), none⟩,
                 ⟨(some 47), .len (.t 46), none⟩,
                 ⟨(some 48), .mv (.c (.int .i64 0)), none⟩])
               (.block 2
                (.loop
                 (.seq
                  (.reg none [⟨(some 49), .bin .lss (.t 48) (.t 47), none⟩])
                  (.seq
                   (.cond (.t 49)
                    .skip
                    (.exit 2))
                   (.seq
                    (.block 3
                     (.seq
                      (.reg none [⟨(some 50), .mv (.t 48), none⟩,
                        ⟨(some 51), .iaddr 1 (.t 46) (.t 48), none⟩,
                        ⟨(some 52), .load none (.t 51), none⟩,
                        ⟨(some 9), .mv (.t 50), none⟩,
                        ⟨(some 10), .mv (.t 52), none⟩])
                      (.reg none [⟨(some 53), .mv (.t 6), none⟩,
                        ⟨(some 54), .mv (.t 7), none⟩,
                        ⟨(some 55), .iaddr 1 (.t 53) (.t 54), none⟩,
                        ⟨(some 56), .load none (.t 55), none⟩,
                        ⟨(some 57), .mv (.t 9), none⟩,
                        ⟨(some 58), .iaddr 1 (.t 56) (.t 57), none⟩,
                        ⟨(some 59), .load none (.t 58), none⟩,
                        ⟨(some 60), .mv (.t 10), none⟩,
                        ⟨(some 61), .bin .add (.t 59) (.t 60), none⟩,
                        ⟨(some 62), .iaddr 1 (.t 56) (.t 57), none⟩,
                        ⟨none, .store 1 (.t 62) (.t 61), none⟩])))
                    (.reg none [⟨(some 63), .bin .add (.t 48) (.c (.int .i64 1)), none⟩,
                      ⟨(some 48), .mv (.t 63), none⟩])))))))))
            (.reg none [⟨(some 64), .bin .add (.t 41) (.c (.int .i64 1)), none⟩,
              ⟨(some 41), .mv (.t 64), none⟩])))))))
      (.seq
       (.seq
        (.reg none [⟨(some 65), .mv (.t 6), none⟩,
          ⟨(some 66), .call 70 [(.t 65)], none⟩,
          ⟨(some 67), .un .not (.t 66), none⟩])
        (.cond (.t 67)
         (.seq
          (.reg none [⟨(some 4), .mv (.c .nils), none⟩,
            ⟨(some 5), .mv (.c (.int .i64 4)), none⟩])
          .ret)
         .skip))
       (.seq
        (.reg none [⟨(some 68), .mv (.t 6), none⟩,
          ⟨(some 4), .mv (.t 68), none⟩,
          ⟨(some 5), .mv (.c (.int .i64 0)), none⟩])
        .ret)))))) }
theorem f45P : prepF C Try.f45 = some f45A := by kernel_rfl

end Go.Proofs.Ytflekaacffdakaa
