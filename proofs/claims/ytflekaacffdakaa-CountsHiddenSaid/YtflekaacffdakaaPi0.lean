/- The abstract forms of the functions that are needed, each checked against the translation. No condition. -/
import Derived.Test.YtflekaacffdakaaAm1
import Derived.Test.YtflekaacffdakaaProg
namespace Go.Proofs.Ytflekaacffdakaa
open Go Go.AM Go.Proofs

/-- the seat's program; the types whose comparison is taken; the functions that may write to what is older -/
def kd : Nat → Kd := fun f => if [68, 80, 100].contains f then .wrt else if [23].contains f then .closed else .ro
noncomputable def C : Cfg := { P := Try.prog, eqT := fun t => if t == 37 then some 2 else if t == 88 then some 3 else none, kd := kd }
/-- congou/congoulaw06.CountsHidden -/
def f12A : AFunc :=
{ nargs := 2, res := [.t 4], body :=
  (.seq
   (.reg none [⟨(some 4), .mv (.c (.b false)), none⟩])
   (.seq
    (.reg none [⟨(some 14), .mv (.t 0), none⟩,
      ⟨(some 15), .call 20 [(.t 14)], none⟩,
      ⟨(some 16), .mv (.t 1), none⟩,
      ⟨(some 17), .call 20 [(.t 16)], none⟩,
      ⟨(some 18), .call 45 [(.t 15), (.t 17)], none⟩,
      ⟨(some 13), .mv (.t 18), none⟩,
      ⟨(some 19), .extr (.t 13) 0, none⟩,
      ⟨(some 20), .extr (.t 13) 1, none⟩,
      ⟨(some 5), .mv (.t 19), none⟩,
      ⟨(some 6), .mv (.t 20), none⟩])
    (.seq
     (.reg none [⟨(some 22), .mv (.t 0), none⟩,
       ⟨(some 23), .call 20 [(.t 22)], none⟩,
       ⟨(some 24), .mv (.t 1), none⟩,
       ⟨(some 25), .call 20 [(.t 24)], none⟩,
       ⟨(some 26), .call 46 [(.t 23), (.t 25)], none⟩,
       ⟨(some 21), .mv (.t 26), none⟩,
       ⟨(some 27), .extr (.t 21) 0, none⟩,
       ⟨(some 28), .extr (.t 21) 1, none⟩,
       ⟨(some 7), .mv (.t 27), none⟩,
       ⟨(some 8), .mv (.t 28), none⟩])
     (.seq
      (.seq
       (.reg (some []) [⟨(some 29), .mv (.t 0), none⟩,
         ⟨(some 30), .call 22 [(.t 29)], none⟩,
         ⟨(some 31), .un .not (.t 30), none⟩,
         ⟨(some 32), .mv (.t 31), none⟩,
         ⟨(some 33), .mv (.t 1), some (32, false)⟩,
         ⟨(some 34), .call 22 [(.t 33)], some (32, false)⟩,
         ⟨(some 35), .un .not (.t 34), some (32, false)⟩,
         ⟨(some 36), .pick (.t 32) (.c (.b true)) (.t 35), none⟩,
         ⟨(some 37), .mv (.t 36), none⟩,
         ⟨(some 38), .mv (.t 0), some (37, false)⟩,
         ⟨(some 39), .len (.t 38), some (37, false)⟩,
         ⟨(some 40), .mv (.t 1), some (37, false)⟩,
         ⟨(some 41), .len (.t 40), some (37, false)⟩,
         ⟨(some 42), .bin .neq (.t 39) (.t 41), some (37, false)⟩,
         ⟨(some 43), .pick (.t 37) (.c (.b true)) (.t 42), none⟩,
         ⟨(some 44), .mv (.t 43), none⟩,
         ⟨(some 45), .mv (.t 0), some (44, false)⟩,
         ⟨(some 46), .iaddr 1 (.t 45) (.c (.int .i64 0)), some (44, false)⟩,
         ⟨(some 47), .load none (.t 46), some (44, false)⟩,
         ⟨(some 48), .len (.t 47), some (44, false)⟩,
         ⟨(some 49), .mv (.t 1), some (44, false)⟩,
         ⟨(some 50), .iaddr 1 (.t 49) (.c (.int .i64 0)), some (44, false)⟩,
         ⟨(some 51), .load none (.t 50), some (44, false)⟩,
         ⟨(some 52), .len (.t 51), some (44, false)⟩,
         ⟨(some 53), .bin .neq (.t 48) (.t 52), some (44, false)⟩,
         ⟨(some 54), .pick (.t 44) (.c (.b true)) (.t 53), none⟩])
       (.cond (.t 54)
        (.seq
         (.reg none [⟨(some 55), .mv (.t 5), none⟩,
           ⟨(some 56), .len (.t 55), none⟩,
           ⟨(some 57), .bin .neq (.t 56) (.c (.int .i64 0)), none⟩,
           ⟨(some 58), .mv (.t 57), none⟩,
           ⟨(some 59), .mv (.t 6), some (58, false)⟩,
           ⟨(some 60), .bin .neq (.t 59) (.c (.int .i64 2)), some (58, false)⟩,
           ⟨(some 61), .pick (.t 58) (.c (.b true)) (.t 60), none⟩])
         (.cond (.t 61)
          (.seq
           (.reg none [⟨(some 4), .mv (.c (.b false)), none⟩])
           .ret)
          .skip))
        (.seq
         (.reg none [⟨(some 63), .mv (.t 0), none⟩,
           ⟨(some 64), .mv (.t 1), none⟩,
           ⟨(some 65), .call 47 [(.t 63), (.t 64)], none⟩,
           ⟨(some 62), .mv (.t 65), none⟩,
           ⟨(some 66), .extr (.t 62) 0, none⟩,
           ⟨(some 67), .extr (.t 62) 1, none⟩,
           ⟨(some 9), .mv (.t 66), none⟩,
           ⟨(some 10), .mv (.t 67), none⟩])
         (.seq
          (.reg none [⟨(some 68), .mv (.t 5), none⟩,
            ⟨(some 69), .mv (.t 9), none⟩,
            ⟨(some 70), .call 26 [(.t 68), (.t 69)], none⟩,
            ⟨(some 71), .un .not (.t 70), none⟩,
            ⟨(some 72), .mv (.t 71), none⟩,
            ⟨(some 73), .mv (.t 6), some (72, false)⟩,
            ⟨(some 74), .mv (.t 10), some (72, false)⟩,
            ⟨(some 75), .bin .neq (.t 73) (.t 74), some (72, false)⟩,
            ⟨(some 76), .pick (.t 72) (.c (.b true)) (.t 75), none⟩])
          (.cond (.t 76)
           (.seq
            (.reg none [⟨(some 4), .mv (.c (.b false)), none⟩])
            .ret)
           .skip)))))
      (.seq
       (.seq
        (.reg none [⟨(some 77), .mv (.t 0), none⟩,
          ⟨(some 78), .call 29 [(.t 77)], none⟩,
          ⟨(some 79), .un .not (.t 78), none⟩,
          ⟨(some 80), .mv (.t 79), none⟩,
          ⟨(some 81), .mv (.t 1), some (80, false)⟩,
          ⟨(some 82), .call 29 [(.t 81)], some (80, false)⟩,
          ⟨(some 83), .un .not (.t 82), some (80, false)⟩,
          ⟨(some 84), .pick (.t 80) (.c (.b true)) (.t 83), none⟩])
        (.cond (.t 84)
         (.seq
          (.reg none [⟨(some 85), .mv (.t 7), none⟩,
            ⟨(some 86), .un .not (.t 85), none⟩,
            ⟨(some 87), .mv (.t 86), none⟩,
            ⟨(some 88), .mv (.t 8), some (87, true)⟩,
            ⟨(some 89), .bin .eql (.t 88) (.c (.int .i64 2)), some (87, true)⟩,
            ⟨(some 90), .pick (.t 87) (.t 89) (.c (.b false)), none⟩,
            ⟨(some 91), .mv (.t 90), none⟩,
            ⟨(some 92), .call 23 [], some (91, true)⟩,
            ⟨(some 93), .pick (.t 91) (.t 92) (.c (.b false)), none⟩,
            ⟨(some 4), .mv (.t 93), none⟩])
          .ret)
         .skip))
       (.seq
        (.reg none [⟨(some 95), .mv (.t 0), none⟩,
          ⟨(some 96), .mv (.t 1), none⟩,
          ⟨(some 97), .call 48 [(.t 95), (.t 96)], none⟩,
          ⟨(some 94), .mv (.t 97), none⟩,
          ⟨(some 98), .extr (.t 94) 0, none⟩,
          ⟨(some 99), .extr (.t 94) 1, none⟩,
          ⟨(some 11), .mv (.t 98), none⟩,
          ⟨(some 12), .mv (.t 99), none⟩])
        (.seq
         (.reg none [⟨(some 100), .mv (.t 7), none⟩,
           ⟨(some 101), .mv (.t 11), none⟩,
           ⟨(some 102), .beq false (.t 100) (.t 101), none⟩,
           ⟨(some 103), .mv (.t 102), none⟩,
           ⟨(some 104), .mv (.t 8), some (103, true)⟩,
           ⟨(some 105), .mv (.t 12), some (103, true)⟩,
           ⟨(some 106), .bin .eql (.t 104) (.t 105), some (103, true)⟩,
           ⟨(some 107), .pick (.t 103) (.t 106) (.c (.b false)), none⟩,
           ⟨(some 108), .mv (.t 107), none⟩,
           ⟨(some 109), .call 23 [], some (108, true)⟩,
           ⟨(some 110), .pick (.t 108) (.t 109) (.c (.b false)), none⟩,
           ⟨(some 4), .mv (.t 110), none⟩])
         .ret))))))) }
theorem f12P : prepF C Try.f12 = some f12A := by kernel_rfl

/-- congou/counts.Sums -/
def f19A : AFunc :=
{ nargs := 1, res := [.t 2, .t 3, .t 4], body :=
  (.seq
   (.reg none [⟨(some 2), .mv (.c .nils), none⟩,
     ⟨(some 3), .mv (.c .nils), none⟩,
     ⟨(some 4), .mv (.c (.int .i64 0)), none⟩])
   (.seq
    (.seq
     (.reg none [⟨(some 5), .mv (.t 0), none⟩,
       ⟨(some 6), .call 70 [(.t 5)], none⟩,
       ⟨(some 7), .un .not (.t 6), none⟩])
     (.cond (.t 7)
      (.seq
       (.reg none [⟨(some 2), .mv (.c .nils), none⟩,
         ⟨(some 3), .mv (.c .nils), none⟩,
         ⟨(some 4), .mv (.c (.int .i64 2)), none⟩])
       .ret)
      .skip))
    (.seq
     (.reg none [⟨(some 9), .mv (.t 0), none⟩,
       ⟨(some 10), .call 71 [(.t 9)], none⟩,
       ⟨(some 8), .mv (.t 10), none⟩,
       ⟨(some 11), .extr (.t 8) 0, none⟩,
       ⟨(some 12), .extr (.t 8) 1, none⟩,
       ⟨(some 2), .mv (.t 11), none⟩,
       ⟨(some 3), .mv (.t 12), none⟩])
     (.seq
      (.reg none [⟨(some 13), .mv (.t 2), none⟩,
        ⟨(some 14), .mv (.t 3), none⟩,
        ⟨(some 2), .mv (.t 13), none⟩,
        ⟨(some 3), .mv (.t 14), none⟩,
        ⟨(some 4), .mv (.c (.int .i64 0)), none⟩])
      .ret)))) }
theorem f19P : prepF C Try.f19 = some f19A := by kernel_rfl

/-- congou/congoulaw06.table -/
def f20A : AFunc :=
{ nargs := 1, res := [.t 2], body :=
  (.seq
   (.reg none [⟨(some 2), .mv (.c .nils), none⟩])
   (.seq
    (.reg none [⟨(some 3), .mv (.c .nils), none⟩])
    (.seq
     (.seq
      (.reg none [⟨(some 6), .mv (.t 0), none⟩,
        ⟨(some 7), .len (.t 6), none⟩,
        ⟨(some 8), .mv (.c (.int .i64 0)), none⟩])
      (.block 0
       (.loop
        (.seq
         (.reg none [⟨(some 9), .bin .lss (.t 8) (.t 7), none⟩])
         (.seq
          (.cond (.t 9)
           .skip
           (.exit 0))
          (.seq
           (.block 1
            (.seq
             (.reg none [⟨(some 10), .mv (.t 8), none⟩,
               ⟨(some 11), .iaddr 1 (.t 6) (.t 8), none⟩,
               ⟨(some 12), .load none (.t 11), none⟩,
               ⟨(some 4), .mv (.t 10), none⟩,
               ⟨(some 5), .mv (.t 12), none⟩])
             (.seq
              (.reg none [⟨(some 13), .mv (.t 4), none⟩,
                ⟨(some 14), .bin .lss (.t 13) (.c (.int .i64 6)), none⟩])
              (.cond (.t 14)
               (.reg none [⟨(some 15), .mv (.t 3), none⟩,
                 ⟨(some 16), .mv (.t 5), none⟩,
                 ⟨(some 17), .call 39 [(.t 16)], none⟩,
                 ⟨(some 18), .bslice [.nils] 1 1 [(0, (.t 17))], none⟩,
                 ⟨(some 19), .append 1 24 (.t 15) (.t 18), none⟩,
                 ⟨(some 3), .mv (.t 19), none⟩])
               .skip))))
           (.reg none [⟨(some 20), .bin .add (.t 8) (.c (.int .i64 1)), none⟩,
             ⟨(some 8), .mv (.t 20), none⟩])))))))
     (.seq
      (.reg none [⟨(some 21), .mv (.t 3), none⟩,
        ⟨(some 2), .mv (.t 21), none⟩])
      .ret)))) }
theorem f20P : prepF C Try.f20 = some f20A := by kernel_rfl

/-- congou/congouref06.Table -/
def f22A : AFunc :=
{ nargs := 1, res := [.t 2], body :=
  (.seq
   (.reg none [⟨(some 2), .mv (.c (.b false)), none⟩])
   (.seq
    (.reg none [⟨(some 3), .mv (.c (.int .i64 0)), none⟩])
    (.seq
     (.seq
      (.reg none [⟨(some 8), .mv (.t 0), none⟩,
        ⟨(some 9), .len (.t 8), none⟩,
        ⟨(some 10), .mv (.c (.int .i64 0)), none⟩])
      (.block 0
       (.loop
        (.seq
         (.reg none [⟨(some 11), .bin .lss (.t 10) (.t 9), none⟩])
         (.seq
          (.cond (.t 11)
           .skip
           (.exit 0))
          (.seq
           (.block 1
            (.seq
             (.reg none [⟨(some 12), .iaddr 1 (.t 8) (.t 10), none⟩,
               ⟨(some 13), .load none (.t 12), none⟩,
               ⟨(some 5), .mv (.t 13), none⟩])
             (.seq
              (.seq
               (.reg none [⟨(some 14), .mv (.t 5), none⟩,
                 ⟨(some 15), .len (.t 14), none⟩,
                 ⟨(some 16), .mv (.t 0), none⟩,
                 ⟨(some 17), .iaddr 1 (.t 16) (.c (.int .i64 0)), none⟩,
                 ⟨(some 18), .load none (.t 17), none⟩,
                 ⟨(some 19), .len (.t 18), none⟩,
                 ⟨(some 20), .bin .neq (.t 15) (.t 19), none⟩,
                 ⟨(some 21), .mv (.t 20), none⟩,
                 ⟨(some 22), .mv (.t 5), some (21, false)⟩,
                 ⟨(some 23), .len (.t 22), some (21, false)⟩,
                 ⟨(some 24), .bin .lss (.t 23) (.c (.int .i64 1)), some (21, false)⟩,
                 ⟨(some 25), .pick (.t 21) (.c (.b true)) (.t 24), none⟩,
                 ⟨(some 26), .mv (.t 25), none⟩,
                 ⟨(some 27), .mv (.t 5), some (26, false)⟩,
                 ⟨(some 28), .len (.t 27), some (26, false)⟩,
                 ⟨(some 29), .bin .gtr (.t 28) (.c (.int .i64 3)), some (26, false)⟩,
                 ⟨(some 30), .pick (.t 26) (.c (.b true)) (.t 29), none⟩])
               (.cond (.t 30)
                (.seq
                 (.reg none [⟨(some 2), .mv (.c (.b false)), none⟩])
                 .ret)
                .skip))
              (.seq
               (.reg none [⟨(some 31), .mv (.t 5), none⟩,
                 ⟨(some 32), .len (.t 31), none⟩,
                 ⟨(some 33), .mv (.c (.int .i64 0)), none⟩])
               (.block 2
                (.loop
                 (.seq
                  (.reg none [⟨(some 34), .bin .lss (.t 33) (.t 32), none⟩])
                  (.seq
                   (.cond (.t 34)
                    .skip
                    (.exit 2))
                   (.seq
                    (.block 3
                     (.seq
                      (.reg none [⟨(some 35), .iaddr 1 (.t 31) (.t 33), none⟩,
                        ⟨(some 36), .load none (.t 35), none⟩,
                        ⟨(some 7), .mv (.t 36), none⟩])
                      (.seq
                       (.seq
                        (.reg none [⟨(some 37), .mv (.t 7), none⟩,
                          ⟨(some 38), .bin .lss (.t 37) (.c (.int .i64 0)), none⟩,
                          ⟨(some 39), .mv (.t 38), none⟩,
                          ⟨(some 40), .mv (.t 7), some (39, false)⟩,
                          ⟨(some 41), .bin .gtr (.t 40) (.c (.int .i64 16)), some (39, false)⟩,
                          ⟨(some 42), .pick (.t 39) (.c (.b true)) (.t 41), none⟩])
                        (.cond (.t 42)
                         (.seq
                          (.reg none [⟨(some 2), .mv (.c (.b false)), none⟩])
                          .ret)
                         .skip))
                       (.reg none [⟨(some 43), .mv (.t 3), none⟩,
                         ⟨(some 44), .mv (.t 7), none⟩,
                         ⟨(some 45), .bin .add (.t 43) (.t 44), none⟩,
                         ⟨(some 3), .mv (.t 45), none⟩]))))
                    (.reg none [⟨(some 46), .bin .add (.t 33) (.c (.int .i64 1)), none⟩,
                      ⟨(some 33), .mv (.t 46), none⟩]))))))))))
           (.reg none [⟨(some 47), .bin .add (.t 10) (.c (.int .i64 1)), none⟩,
             ⟨(some 10), .mv (.t 47), none⟩])))))))
     (.seq
      (.reg none [⟨(some 48), .mv (.t 0), none⟩,
        ⟨(some 49), .len (.t 48), none⟩,
        ⟨(some 50), .bin .geq (.t 49) (.c (.int .i64 1)), none⟩,
        ⟨(some 51), .mv (.t 50), none⟩,
        ⟨(some 52), .mv (.t 0), some (51, true)⟩,
        ⟨(some 53), .len (.t 52), some (51, true)⟩,
        ⟨(some 54), .bin .leq (.t 53) (.c (.int .i64 3)), some (51, true)⟩,
        ⟨(some 55), .pick (.t 51) (.t 54) (.c (.b false)), none⟩,
        ⟨(some 56), .mv (.t 55), none⟩,
        ⟨(some 57), .mv (.t 3), some (56, true)⟩,
        ⟨(some 58), .bin .leq (.t 57) (.c (.int .i64 16)), some (56, true)⟩,
        ⟨(some 59), .pick (.t 56) (.t 58) (.c (.b false)), none⟩,
        ⟨(some 2), .mv (.t 59), none⟩])
      .ret)))) }
theorem f22P : prepF C Try.f22 = some f22A := by kernel_rfl

/-- congou/congoulaw06.awake -/
def f23A : AFunc :=
{ nargs := 0, res := [.t 0], body :=
  (.seq
   (.reg none [⟨(some 0), .mv (.c (.b false)), none⟩])
   (.seq
    (.reg none [⟨(some 5), .bslice [(.int .i64 0)] 2 1 [(0, (.c (.int .i64 1))), (1, (.c (.int .i64 2)))], none⟩,
      ⟨(some 6), .bslice [(.int .i64 0)] 2 1 [(0, (.c (.int .i64 3))), (1, (.c (.int .i64 4)))], none⟩,
      ⟨(some 7), .bslice [.nils] 2 1 [(0, (.t 5)), (1, (.t 6))], none⟩,
      ⟨(some 8), .call 19 [(.t 7)], none⟩,
      ⟨(some 4), .mv (.t 8), none⟩,
      ⟨(some 9), .extr (.t 4) 0, none⟩,
      ⟨(some 10), .extr (.t 4) 1, none⟩,
      ⟨(some 11), .extr (.t 4) 2, none⟩,
      ⟨(some 1), .mv (.t 9), none⟩,
      ⟨(some 2), .mv (.t 10), none⟩,
      ⟨(some 3), .mv (.t 11), none⟩])
    (.seq
     (.reg none [⟨(some 12), .mv (.t 3), none⟩,
       ⟨(some 13), .bin .eql (.t 12) (.c (.int .i64 0)), none⟩,
       ⟨(some 14), .mv (.t 13), none⟩,
       ⟨(some 15), .mv (.t 1), some (14, true)⟩,
       ⟨(some 16), .bslice [(.int .i64 0)] 2 1 [(0, (.c (.int .i64 3))), (1, (.c (.int .i64 7)))], some (14, true)⟩,
       ⟨(some 17), .call 25 [(.t 15), (.t 16)], some (14, true)⟩,
       ⟨(some 18), .pick (.t 14) (.t 17) (.c (.b false)), none⟩,
       ⟨(some 19), .mv (.t 18), none⟩,
       ⟨(some 20), .mv (.t 2), some (19, true)⟩,
       ⟨(some 21), .bslice [(.int .i64 0)] 2 1 [(0, (.c (.int .i64 4))), (1, (.c (.int .i64 6)))], some (19, true)⟩,
       ⟨(some 22), .call 25 [(.t 20), (.t 21)], some (19, true)⟩,
       ⟨(some 23), .pick (.t 19) (.t 22) (.c (.b false)), none⟩,
       ⟨(some 0), .mv (.t 23), none⟩])
     .ret))) }
theorem f23P : prepF C Try.f23 = some f23A := by kernel_rfl

/-- slices.Equal[[]int,int] -/
def f25A : AFunc :=
{ nargs := 2, res := [.t 4], body :=
  (.seq
   (.reg none [⟨(some 4), .mv (.c (.b false)), none⟩])
   (.seq
    (.seq
     (.reg none [⟨(some 6), .mv (.t 0), none⟩,
       ⟨(some 7), .len (.t 6), none⟩,
       ⟨(some 8), .mv (.t 1), none⟩,
       ⟨(some 9), .len (.t 8), none⟩,
       ⟨(some 10), .bin .neq (.t 7) (.t 9), none⟩])
     (.cond (.t 10)
      (.seq
       (.reg none [⟨(some 4), .mv (.c (.b false)), none⟩])
       .ret)
      .skip))
    (.seq
     (.seq
      (.reg none [⟨(some 11), .mv (.t 0), none⟩,
        ⟨(some 12), .len (.t 11), none⟩,
        ⟨(some 13), .mv (.c (.int .i64 0)), none⟩])
      (.block 0
       (.loop
        (.seq
         (.reg none [⟨(some 14), .bin .lss (.t 13) (.t 12), none⟩])
         (.seq
          (.cond (.t 14)
           .skip
           (.exit 0))
          (.seq
           (.block 1
            (.seq
             (.reg none [⟨(some 15), .mv (.t 13), none⟩,
               ⟨(some 5), .mv (.t 15), none⟩])
             (.seq
              (.reg (some []) [⟨(some 16), .mv (.t 0), none⟩,
                ⟨(some 17), .mv (.t 5), none⟩,
                ⟨(some 18), .iaddr 1 (.t 16) (.t 17), none⟩,
                ⟨(some 19), .load none (.t 18), none⟩,
                ⟨(some 20), .mv (.t 1), none⟩,
                ⟨(some 21), .mv (.t 5), none⟩,
                ⟨(some 22), .iaddr 1 (.t 20) (.t 21), none⟩,
                ⟨(some 23), .load none (.t 22), none⟩,
                ⟨(some 24), .bin .neq (.t 19) (.t 23), none⟩])
              (.cond (.t 24)
               (.seq
                (.reg none [⟨(some 4), .mv (.c (.b false)), none⟩])
                .ret)
               .skip))))
           (.reg none [⟨(some 25), .bin .add (.t 13) (.c (.int .i64 1)), none⟩,
             ⟨(some 13), .mv (.t 25), none⟩])))))))
     (.seq
      (.reg none [⟨(some 4), .mv (.c (.b true)), none⟩])
      .ret)))) }
theorem f25P : prepF C Try.f25 = some f25A := by kernel_rfl

/-- congou/congouref06.Same -/
def f26A : AFunc :=
{ nargs := 2, res := [.t 4], body :=
  (.seq
   (.reg none [⟨(some 4), .mv (.c (.b false)), none⟩])
   (.seq
    (.seq
     (.reg none [⟨(some 9), .mv (.t 0), none⟩,
       ⟨(some 10), .len (.t 9), none⟩,
       ⟨(some 11), .mv (.t 1), none⟩,
       ⟨(some 12), .len (.t 11), none⟩,
       ⟨(some 13), .bin .neq (.t 10) (.t 12), none⟩])
     (.cond (.t 13)
      (.seq
       (.reg none [⟨(some 4), .mv (.c (.b false)), none⟩])
       .ret)
      .skip))
    (.seq
     (.seq
      (.reg none [⟨(some 14), .mv (.t 0), none⟩,
        ⟨(some 15), .len (.t 14), none⟩,
        ⟨(some 16), .mv (.c (.int .i64 0)), none⟩])
      (.block 0
       (.loop
        (.seq
         (.reg none [⟨(some 17), .bin .lss (.t 16) (.t 15), none⟩])
         (.seq
          (.cond (.t 17)
           .skip
           (.exit 0))
          (.seq
           (.block 1
            (.seq
             (.reg none [⟨(some 18), .mv (.t 16), none⟩,
               ⟨(some 19), .iaddr 1 (.t 14) (.t 16), none⟩,
               ⟨(some 20), .load none (.t 19), none⟩,
               ⟨(some 5), .mv (.t 18), none⟩,
               ⟨(some 6), .mv (.t 20), none⟩])
             (.seq
              (.seq
               (.reg none [⟨(some 21), .mv (.t 6), none⟩,
                 ⟨(some 22), .len (.t 21), none⟩,
                 ⟨(some 23), .mv (.t 1), none⟩,
                 ⟨(some 24), .mv (.t 5), none⟩,
                 ⟨(some 25), .iaddr 1 (.t 23) (.t 24), none⟩,
                 ⟨(some 26), .load none (.t 25), none⟩,
                 ⟨(some 27), .len (.t 26), none⟩,
                 ⟨(some 28), .bin .neq (.t 22) (.t 27), none⟩])
               (.cond (.t 28)
                (.seq
                 (.reg none [⟨(some 4), .mv (.c (.b false)), none⟩])
                 .ret)
                .skip))
              (.seq
               (.reg none [⟨(some 29), .mv (.t 6), none⟩,
                 ⟨(some 30), .len (.t 29), none⟩,
                 ⟨(some 31), .mv (.c (.int .i64 0)), none⟩])
               (.block 2
                (.loop
                 (.seq
                  (.reg none [⟨(some 32), .bin .lss (.t 31) (.t 30), none⟩])
                  (.seq
                   (.cond (.t 32)
                    .skip
                    (.exit 2))
                   (.seq
                    (.block 3
                     (.seq
                      (.reg none [⟨(some 33), .mv (.t 31), none⟩,
                        ⟨(some 34), .iaddr 1 (.t 29) (.t 31), none⟩,
                        ⟨(some 35), .load none (.t 34), none⟩,
                        ⟨(some 7), .mv (.t 33), none⟩,
                        ⟨(some 8), .mv (.t 35), none⟩])
                      (.seq
                       (.reg none [⟨(some 36), .mv (.t 8), none⟩,
                         ⟨(some 37), .mv (.t 1), none⟩,
                         ⟨(some 38), .mv (.t 5), none⟩,
                         ⟨(some 39), .iaddr 1 (.t 37) (.t 38), none⟩,
                         ⟨(some 40), .load none (.t 39), none⟩,
                         ⟨(some 41), .mv (.t 7), none⟩,
                         ⟨(some 42), .iaddr 1 (.t 40) (.t 41), none⟩,
                         ⟨(some 43), .load none (.t 42), none⟩,
                         ⟨(some 44), .bin .neq (.t 36) (.t 43), none⟩])
                       (.cond (.t 44)
                        (.seq
                         (.reg none [⟨(some 4), .mv (.c (.b false)), none⟩])
                         .ret)
                        .skip))))
                    (.reg none [⟨(some 45), .bin .add (.t 31) (.c (.int .i64 1)), none⟩,
                      ⟨(some 31), .mv (.t 45), none⟩]))))))))))
           (.reg none [⟨(some 46), .bin .add (.t 16) (.c (.int .i64 1)), none⟩,
             ⟨(some 16), .mv (.t 46), none⟩])))))))
     (.seq
      (.reg none [⟨(some 4), .mv (.c (.b true)), none⟩])
      .ret)))) }
theorem f26P : prepF C Try.f26 = some f26A := by kernel_rfl

/-- congou/counts.Odds -/
def f28A : AFunc :=
{ nargs := 1, res := [.c 2 (some 2), .t 3], body :=
  (.seq
   (.reg none [⟨(some 2), .alloc [(.int .i64 0), (.int .i64 0)], none⟩,
     ⟨(some 3), .mv (.c (.int .i64 0)), none⟩])
   (.seq
    (.block 0
     (.seq
      (.reg none [⟨(some 5), .mv (.t 0), none⟩,
        ⟨(some 6), .call 72 [(.t 5)], none⟩,
        ⟨(some 7), .un .not (.t 6), none⟩,
        ⟨(some 4), .mv (.t 7), none⟩])
      (.cond (.t 4)
       (.seq
        (.reg none [⟨(some 8), .build [(.int .i64 0), (.int .i64 0)] [], none⟩,
          ⟨none, .store 2 (.t 2) (.t 8), none⟩,
          ⟨(some 3), .mv (.c (.int .i64 2)), none⟩])
        .ret)
       (.seq
        (.reg none [⟨(some 10), .mv (.t 0), none⟩,
          ⟨(some 11), .iaddr 1 (.t 10) (.c (.int .i64 0)), none⟩,
          ⟨(some 12), .load none (.t 11), none⟩,
          ⟨(some 13), .iaddr 1 (.t 12) (.c (.int .i64 1)), none⟩,
          ⟨(some 14), .load none (.t 13), none⟩,
          ⟨(some 15), .bin .eql (.t 14) (.c (.int .i64 0)), none⟩,
          ⟨(some 16), .mv (.t 15), none⟩,
          ⟨(some 17), .mv (.t 0), some (16, false)⟩,
          ⟨(some 18), .iaddr 1 (.t 17) (.c (.int .i64 1)), some (16, false)⟩,
          ⟨(some 19), .load none (.t 18), some (16, false)⟩,
          ⟨(some 20), .iaddr 1 (.t 19) (.c (.int .i64 0)), some (16, false)⟩,
          ⟨(some 21), .load none (.t 20), some (16, false)⟩,
          ⟨(some 22), .bin .eql (.t 21) (.c (.int .i64 0)), some (16, false)⟩,
          ⟨(some 23), .pick (.t 16) (.c (.b true)) (.t 22), none⟩,
          ⟨(some 9), .mv (.t 23), none⟩])
        (.cond (.t 9)
         (.seq
          (.reg none [⟨(some 24), .build [(.int .i64 0), (.int .i64 0)] [], none⟩,
            ⟨none, .store 2 (.t 2) (.t 24), none⟩,
            ⟨(some 3), .mv (.c (.int .i64 5)), none⟩])
          .ret)
         .skip)))))
    (.seq
     (.reg (some []) [⟨(some 25), .mv (.t 0), none⟩,
       ⟨(some 26), .iaddr 1 (.t 25) (.c (.int .i64 0)), none⟩,
       ⟨(some 27), .load none (.t 26), none⟩,
       ⟨(some 28), .iaddr 1 (.t 27) (.c (.int .i64 0)), none⟩,
       ⟨(some 29), .load none (.t 28), none⟩,
       ⟨(some 30), .mv (.t 0), none⟩,
       ⟨(some 31), .iaddr 1 (.t 30) (.c (.int .i64 1)), none⟩,
       ⟨(some 32), .load none (.t 31), none⟩,
       ⟨(some 33), .iaddr 1 (.t 32) (.c (.int .i64 1)), none⟩,
       ⟨(some 34), .load none (.t 33), none⟩,
       ⟨(some 35), .bin .mul (.t 29) (.t 34), none⟩,
       ⟨(some 36), .mv (.t 0), none⟩,
       ⟨(some 37), .iaddr 1 (.t 36) (.c (.int .i64 0)), none⟩,
       ⟨(some 38), .load none (.t 37), none⟩,
       ⟨(some 39), .iaddr 1 (.t 38) (.c (.int .i64 1)), none⟩,
       ⟨(some 40), .load none (.t 39), none⟩,
       ⟨(some 41), .mv (.t 0), none⟩,
       ⟨(some 42), .iaddr 1 (.t 41) (.c (.int .i64 1)), none⟩,
       ⟨(some 43), .load none (.t 42), none⟩,
       ⟨(some 44), .iaddr 1 (.t 43) (.c (.int .i64 0)), none⟩,
       ⟨(some 45), .load none (.t 44), none⟩,
       ⟨(some 46), .bin .mul (.t 40) (.t 45), none⟩,
       ⟨(some 47), .call 73 [(.t 35), (.t 46)], none⟩,
       ⟨none, .store 2 (.t 2) (.t 47), none⟩,
       ⟨(some 3), .mv (.c (.int .i64 0)), none⟩])
     .ret))) }
theorem f28P : prepF C Try.f28 = some f28A := by kernel_rfl

/-- congou/congouref06.Two -/
def f29A : AFunc :=
{ nargs := 1, res := [.t 2], body :=
  (.seq
   (.reg none [⟨(some 2), .mv (.c (.b false)), none⟩])
   (.seq
    (.reg none [⟨(some 3), .mv (.t 0), none⟩,
      ⟨(some 4), .call 22 [(.t 3)], none⟩,
      ⟨(some 5), .mv (.t 4), none⟩,
      ⟨(some 6), .mv (.t 0), some (5, true)⟩,
      ⟨(some 7), .len (.t 6), some (5, true)⟩,
      ⟨(some 8), .bin .eql (.t 7) (.c (.int .i64 2)), some (5, true)⟩,
      ⟨(some 9), .pick (.t 5) (.t 8) (.c (.b false)), none⟩,
      ⟨(some 10), .mv (.t 9), none⟩,
      ⟨(some 11), .mv (.t 0), some (10, true)⟩,
      ⟨(some 12), .iaddr 1 (.t 11) (.c (.int .i64 0)), some (10, true)⟩,
      ⟨(some 13), .load none (.t 12), some (10, true)⟩,
      ⟨(some 14), .len (.t 13), some (10, true)⟩,
      ⟨(some 15), .bin .eql (.t 14) (.c (.int .i64 2)), some (10, true)⟩,
      ⟨(some 16), .pick (.t 10) (.t 15) (.c (.b false)), none⟩,
      ⟨(some 2), .mv (.t 16), none⟩])
    .ret)) }
theorem f29P : prepF C Try.f29 = some f29A := by kernel_rfl

/-- congou/congouref06.Odds -/
def f31A : AFunc :=
{ nargs := 1, res := [.c 2 (some 2), .t 3], body :=
  (.seq
   (.reg none [⟨(some 2), .alloc [(.int .i64 0), (.int .i64 0)], none⟩,
     ⟨(some 3), .mv (.c (.int .i64 0)), none⟩])
   (.seq
    (.seq
     (.reg none [⟨(some 4), .mv (.t 0), none⟩,
       ⟨(some 5), .iaddr 1 (.t 4) (.c (.int .i64 0)), none⟩,
       ⟨(some 6), .load none (.t 5), none⟩,
       ⟨(some 7), .iaddr 1 (.t 6) (.c (.int .i64 1)), none⟩,
       ⟨(some 8), .load none (.t 7), none⟩,
       ⟨(some 9), .bin .eql (.t 8) (.c (.int .i64 0)), none⟩,
       ⟨(some 10), .mv (.t 9), none⟩,
       ⟨(some 11), .mv (.t 0), some (10, false)⟩,
       ⟨(some 12), .iaddr 1 (.t 11) (.c (.int .i64 1)), some (10, false)⟩,
       ⟨(some 13), .load none (.t 12), some (10, false)⟩,
       ⟨(some 14), .iaddr 1 (.t 13) (.c (.int .i64 0)), some (10, false)⟩,
       ⟨(some 15), .load none (.t 14), some (10, false)⟩,
       ⟨(some 16), .bin .eql (.t 15) (.c (.int .i64 0)), some (10, false)⟩,
       ⟨(some 17), .pick (.t 10) (.c (.b true)) (.t 16), none⟩])
     (.cond (.t 17)
      (.seq
       (.reg none [⟨(some 18), .build [(.int .i64 0), (.int .i64 0)] [], none⟩,
         ⟨none, .store 2 (.t 2) (.t 18), none⟩,
         ⟨(some 3), .mv (.c (.int .i64 5)), none⟩])
       .ret)
      .skip))
    (.seq
     (.reg (some []) [⟨(some 19), .mv (.t 0), none⟩,
       ⟨(some 20), .iaddr 1 (.t 19) (.c (.int .i64 0)), none⟩,
       ⟨(some 21), .load none (.t 20), none⟩,
       ⟨(some 22), .iaddr 1 (.t 21) (.c (.int .i64 0)), none⟩,
       ⟨(some 23), .load none (.t 22), none⟩,
       ⟨(some 24), .mv (.t 0), none⟩,
       ⟨(some 25), .iaddr 1 (.t 24) (.c (.int .i64 1)), none⟩,
       ⟨(some 26), .load none (.t 25), none⟩,
       ⟨(some 27), .iaddr 1 (.t 26) (.c (.int .i64 1)), none⟩,
       ⟨(some 28), .load none (.t 27), none⟩,
       ⟨(some 29), .bin .mul (.t 23) (.t 28), none⟩,
       ⟨(some 30), .mv (.t 0), none⟩,
       ⟨(some 31), .iaddr 1 (.t 30) (.c (.int .i64 0)), none⟩,
       ⟨(some 32), .load none (.t 31), none⟩,
       ⟨(some 33), .iaddr 1 (.t 32) (.c (.int .i64 1)), none⟩,
       ⟨(some 34), .load none (.t 33), none⟩,
       ⟨(some 35), .mv (.t 0), none⟩,
       ⟨(some 36), .iaddr 1 (.t 35) (.c (.int .i64 1)), none⟩,
       ⟨(some 37), .load none (.t 36), none⟩,
       ⟨(some 38), .iaddr 1 (.t 37) (.c (.int .i64 0)), none⟩,
       ⟨(some 39), .load none (.t 38), none⟩,
       ⟨(some 40), .bin .mul (.t 34) (.t 39), none⟩,
       ⟨(some 41), .call 55 [(.t 29), (.t 40)], none⟩,
       ⟨none, .store 2 (.t 2) (.t 41), none⟩,
       ⟨(some 3), .mv (.c (.int .i64 0)), none⟩])
     .ret))) }
theorem f31P : prepF C Try.f31 = some f31A := by kernel_rfl

/-- congou/congoulaw06.list -/
def f39A : AFunc :=
{ nargs := 1, res := [.t 2], body :=
  (.seq
   (.reg none [⟨(some 2), .mv (.c .nils), none⟩])
   (.seq
    (.reg none [⟨(some 3), .mv (.t 0), none⟩,
      ⟨(some 4), .mv (.t 0), none⟩,
      ⟨(some 5), .len (.t 4), none⟩,
      ⟨(some 6), .mn [(.t 5), (.c (.int .i64 6))], none⟩,
      ⟨(some 7), .slice 1 (.t 3) none (some (.t 6)) none, none⟩,
      ⟨(some 8), .call 56 [(.t 7)], none⟩,
      ⟨(some 2), .mv (.t 8), none⟩])
    .ret)) }
theorem f39P : prepF C Try.f39 = some f39A := by kernel_rfl

/-- congou/counts.Plus -/
def f45A : AFunc :=
{ nargs := 2, res := [.t 4, .t 5], body :=
  (.seq
   (.reg none [⟨(some 4), .mv (.c .nils), none⟩,
     ⟨(some 5), .mv (.c (.int .i64 0)), none⟩])
   (.seq
    (.seq
     (.reg (some []) [⟨(some 11), .mv (.t 0), none⟩,
       ⟨(some 12), .call 70 [(.t 11)], none⟩,
       ⟨(some 13), .un .not (.t 12), none⟩,
       ⟨(some 14), .mv (.t 13), none⟩,
       ⟨(some 15), .mv (.t 1), some (14, false)⟩,
       ⟨(some 16), .call 70 [(.t 15)], some (14, false)⟩,
       ⟨(some 17), .un .not (.t 16), some (14, false)⟩,
       ⟨(some 18), .pick (.t 14) (.c (.b true)) (.t 17), none⟩,
       ⟨(some 19), .mv (.t 18), none⟩,
       ⟨(some 20), .mv (.t 0), some (19, false)⟩,
       ⟨(some 21), .len (.t 20), some (19, false)⟩,
       ⟨(some 22), .mv (.t 1), some (19, false)⟩,
       ⟨(some 23), .len (.t 22), some (19, false)⟩,
       ⟨(some 24), .bin .neq (.t 21) (.t 23), some (19, false)⟩,
       ⟨(some 25), .pick (.t 19) (.c (.b true)) (.t 24), none⟩,
       ⟨(some 26), .mv (.t 25), none⟩,
       ⟨(some 27), .mv (.t 0), some (26, false)⟩,
       ⟨(some 28), .iaddr 1 (.t 27) (.c (.int .i64 0)), some (26, false)⟩,
       ⟨(some 29), .load none (.t 28), some (26, false)⟩,
       ⟨(some 30), .len (.t 29), some (26, false)⟩,
       ⟨(some 31), .mv (.t 1), some (26, false)⟩,
       ⟨(some 32), .iaddr 1 (.t 31) (.c (.int .i64 0)), some (26, false)⟩,
       ⟨(some 33), .load none (.t 32), some (26, false)⟩,
       ⟨(some 34), .len (.t 33), some (26, false)⟩,
       ⟨(some 35), .bin .neq (.t 30) (.t 34), some (26, false)⟩,
       ⟨(some 36), .pick (.t 26) (.c (.b true)) (.t 35), none⟩])
     (.cond (.t 36)
      (.seq
       (.reg none [⟨(some 4), .mv (.c .nils), none⟩,
         ⟨(some 5), .mv (.c (.int .i64 2)), none⟩])
       .ret)
      .skip))
    (.seq
     (.reg none [⟨(some 37), .mv (.t 0), none⟩,
       ⟨(some 38), .call 84 [(.t 37)], none⟩,
       ⟨(some 6), .mv (.t 38), none⟩])
     (.seq
      (.seq
       (.reg none [⟨(some 39), .mv (.t 1), none⟩,
         ⟨(some 40), .len (.t 39), none⟩,
         ⟨(some 41), .mv (.c (.int .i64 0)), none⟩])
       (.block 0
        (.loop
         (.seq
          (.reg none [⟨(some 42), .bin .lss (.t 41) (.t 40), none⟩])
          (.seq
           (.cond (.t 42)
            .skip
            (.exit 0))
           (.seq
            (.block 1
             (.seq
              (.reg none [⟨(some 43), .mv (.t 41), none⟩,
                ⟨(some 44), .iaddr 1 (.t 39) (.t 41), none⟩,
                ⟨(some 45), .load none (.t 44), none⟩,
                ⟨(some 7), .mv (.t 43), none⟩,
                ⟨(some 8), .mv (.t 45), none⟩])
              (.seq
               (.reg none [⟨(some 46), .mv (.t 8), none⟩,
                 ⟨(some 47), .len (.t 46), none⟩,
                 ⟨(some 48), .mv (.c (.int .i64 0)), none⟩])
               (.block 2
                (.loop
                 (.seq
                  (.reg none [⟨(some 49), .bin .lss (.t 48) (.t 47), none⟩])
                  (.seq
                   (.cond (.t 49)
                    .skip
                    (.exit 2))
                   (.seq
                    (.block 3
                     (.seq
                      (.reg none [⟨(some 50), .mv (.t 48), none⟩,
                        ⟨(some 51), .iaddr 1 (.t 46) (.t 48), none⟩,
                        ⟨(some 52), .load none (.t 51), none⟩,
                        ⟨(some 9), .mv (.t 50), none⟩,
                        ⟨(some 10), .mv (.t 52), none⟩])
                      (.reg none [⟨(some 53), .mv (.t 6), none⟩,
                        ⟨(some 54), .mv (.t 7), none⟩,
                        ⟨(some 55), .iaddr 1 (.t 53) (.t 54), none⟩,
                        ⟨(some 56), .load none (.t 55), none⟩,
                        ⟨(some 57), .mv (.t 9), none⟩,
                        ⟨(some 58), .iaddr 1 (.t 56) (.t 57), none⟩,
                        ⟨(some 59), .load none (.t 58), none⟩,
                        ⟨(some 60), .mv (.t 10), none⟩,
                        ⟨(some 61), .bin .add (.t 59) (.t 60), none⟩,
                        ⟨(some 62), .iaddr 1 (.t 56) (.t 57), none⟩,
                        ⟨none, .store 1 (.t 62) (.t 61), none⟩])))
                    (.reg none [⟨(some 63), .bin .add (.t 48) (.c (.int .i64 1)), none⟩,
                      ⟨(some 48), .mv (.t 63), none⟩])))))))))
            (.reg none [⟨(some 64), .bin .add (.t 41) (.c (.int .i64 1)), none⟩,
              ⟨(some 41), .mv (.t 64), none⟩])))))))
      (.seq
       (.seq
        (.reg none [⟨(some 65), .mv (.t 6), none⟩,
          ⟨(some 66), .call 70 [(.t 65)], none⟩,
          ⟨(some 67), .un .not (.t 66), none⟩])
        (.cond (.t 67)
         (.seq
          (.reg none [⟨(some 4), .mv (.c .nils), none⟩,
            ⟨(some 5), .mv (.c (.int .i64 4)), none⟩])
          .ret)
         .skip))
       (.seq
        (.reg none [⟨(some 68), .mv (.t 6), none⟩,
          ⟨(some 4), .mv (.t 68), none⟩,
          ⟨(some 5), .mv (.c (.int .i64 0)), none⟩])
        .ret)))))) }
theorem f45P : prepF C Try.f45 = some f45A := by kernel_rfl

/-- congou/counts.Hidden -/
def f46A : AFunc :=
{ nargs := 2, res := [.t 4, .t 5], body :=
  (.seq
   (.reg none [⟨(some 4), .mv (.c (.b false)), none⟩,
     ⟨(some 5), .mv (.c (.int .i64 0)), none⟩])
   (.seq
    (.seq
     (.reg none [⟨(some 13), .mv (.t 0), none⟩,
       ⟨(some 14), .call 72 [(.t 13)], none⟩,
       ⟨(some 15), .un .not (.t 14), none⟩,
       ⟨(some 16), .mv (.t 15), none⟩,
       ⟨(some 17), .mv (.t 1), some (16, false)⟩,
       ⟨(some 18), .call 72 [(.t 17)], some (16, false)⟩,
       ⟨(some 19), .un .not (.t 18), some (16, false)⟩,
       ⟨(some 20), .pick (.t 16) (.c (.b true)) (.t 19), none⟩])
     (.cond (.t 20)
      (.seq
       (.reg none [⟨(some 4), .mv (.c (.b false)), none⟩,
         ⟨(some 5), .mv (.c (.int .i64 2)), none⟩])
       .ret)
      .skip))
    (.seq
     (.reg none [⟨(some 22), .mv (.t 0), none⟩,
       ⟨(some 23), .mv (.t 1), none⟩,
       ⟨(some 24), .call 45 [(.t 22), (.t 23)], none⟩,
       ⟨(some 21), .mv (.t 24), none⟩,
       ⟨(some 25), .extr (.t 21) 0, none⟩,
       ⟨(some 26), .extr (.t 21) 1, none⟩,
       ⟨(some 6), .mv (.t 25), none⟩,
       ⟨(some 7), .mv (.t 26), none⟩])
     (.seq
      (.seq
       (.reg none [⟨(some 27), .mv (.t 7), none⟩,
         ⟨(some 28), .bin .neq (.t 27) (.c (.int .i64 0)), none⟩])
       (.cond (.t 28)
        (.seq
         (.reg none [⟨(some 4), .mv (.c (.b false)), none⟩,
           ⟨(some 5), .mv (.c (.int .i64 5)), none⟩])
         .ret)
        .skip))
      (.seq
       (.reg none [⟨(some 8), .alloc [(.int .i64 0), (.int .i64 0), (.int .i64 0)], none⟩])
       (.seq
        (.seq
         (.reg none [⟨(some 29), .mv (.t 0), none⟩,
           ⟨(some 30), .mv (.t 1), none⟩,
           ⟨(some 31), .mv (.t 6), none⟩,
           ⟨(some 32), .bslice [.nils] 3 1 [(0, (.t 29)), (1, (.t 30)), (2, (.t 31))], none⟩,
           ⟨(some 33), .len (.t 32), none⟩,
           ⟨(some 34), .mv (.c (.int .i64 0)), none⟩])
         (.block 0
          (.loop
           (.seq
            (.reg none [⟨(some 35), .bin .lss (.t 34) (.t 33), none⟩])
            (.seq
             (.cond (.t 35)
              .skip
              (.exit 0))
             (.seq
              (.block 1
               (.seq
                (.reg none [⟨(some 36), .mv (.t 34), none⟩,
                  ⟨(some 37), .iaddr 1 (.t 32) (.t 34), none⟩,
                  ⟨(some 38), .load none (.t 37), none⟩,
                  ⟨(some 9), .mv (.t 36), none⟩,
                  ⟨(some 10), .mv (.t 38), none⟩])
                (.seq
                 (.reg none [⟨(some 40), .mv (.t 10), none⟩,
                   ⟨(some 41), .call 28 [(.t 40)], none⟩,
                   ⟨(some 39), .mv (.t 41), none⟩,
                   ⟨(some 42), .extr (.t 39) 0, none⟩,
                   ⟨(some 43), .extr (.t 39) 1, none⟩,
                   ⟨(some 11), .alloc [(.int .i64 0), (.int .i64 0)], none⟩,
                   ⟨none, .store 2 (.t 11) (.t 42), none⟩,
                   ⟨(some 12), .mv (.t 43), none⟩])
                 (.seq
                  (.seq
                   (.reg none [⟨(some 44), .mv (.t 12), none⟩,
                     ⟨(some 45), .bin .neq (.t 44) (.c (.int .i64 0)), none⟩])
                   (.cond (.t 45)
                    (.seq
                     (.reg none [⟨(some 46), .mv (.t 12), none⟩,
                       ⟨(some 4), .mv (.c (.b false)), none⟩,
                       ⟨(some 5), .mv (.t 46), none⟩])
                     .ret)
                    .skip))
                  (.reg none [⟨(some 47), .mv (.t 9), none⟩,
                    ⟨(some 48), .faddr 0 (.t 11), none⟩,
                    ⟨(some 49), .load none (.t 48), none⟩,
                    ⟨(some 50), .faddr 1 (.t 11), none⟩,
                    ⟨(some 51), .load none (.t 50), none⟩,
                    ⟨(some 52), .call 85 [(.t 49), (.t 51)], none⟩,
                    ⟨(some 53), .iaddrA 3 1 (.t 8) (.t 47), none⟩,
                    ⟨none, .store 1 (.t 53) (.t 52), none⟩])))))
              (.reg none [⟨(some 54), .bin .add (.t 34) (.c (.int .i64 1)), none⟩,
                ⟨(some 34), .mv (.t 54), none⟩])))))))
        (.seq
         (.reg none [⟨(some 55), .load (some 3) (.t 8), none⟩,
           ⟨(some 56), .build [(.int .i64 0), (.int .i64 0), (.int .i64 0)] [(0, 1, (.c (.int .i64 1))), (1, 1, (.c (.int .i64 1))), (2, 1, (.c (.int .i64 (-1))))], none⟩,
           ⟨(some 57), .aeq false 3 (.t 55) (.t 56), none⟩,
           ⟨(some 58), .mv (.t 57), none⟩,
           ⟨(some 59), .load (some 3) (.t 8), some (58, false)⟩,
           ⟨(some 60), .build [(.int .i64 0), (.int .i64 0), (.int .i64 0)] [(0, 1, (.c (.int .i64 (-1)))), (1, 1, (.c (.int .i64 (-1)))), (2, 1, (.c (.int .i64 1)))], some (58, false)⟩,
           ⟨(some 61), .aeq false 3 (.t 59) (.t 60), some (58, false)⟩,
           ⟨(some 62), .pick (.t 58) (.c (.b true)) (.t 61), none⟩,
           ⟨(some 4), .mv (.t 62), none⟩,
           ⟨(some 5), .mv (.c (.int .i64 0)), none⟩])
         .ret))))))) }
theorem f46P : prepF C Try.f46 = some f46A := by kernel_rfl

/-- congou/congouref06.Plus -/
def f47A : AFunc :=
{ nargs := 2, res := [.t 4, .t 5], body :=
  (.seq
   (.reg none [⟨(some 4), .mv (.c .nils), none⟩,
     ⟨(some 5), .mv (.c (.int .i64 0)), none⟩])
   (.seq
    (.reg none [⟨(some 6), .mv (.c .nils), none⟩])
    (.seq
     (.seq
      (.reg none [⟨(some 12), .mv (.t 0), none⟩,
        ⟨(some 13), .len (.t 12), none⟩,
        ⟨(some 14), .mv (.c (.int .i64 0)), none⟩])
      (.block 0
       (.loop
        (.seq
         (.reg none [⟨(some 15), .bin .lss (.t 14) (.t 13), none⟩])
         (.seq
          (.cond (.t 15)
           .skip
           (.exit 0))
          (.seq
           (.block 1
            (.seq
             (.reg none [⟨(some 16), .mv (.t 14), none⟩,
               ⟨(some 17), .iaddr 1 (.t 12) (.t 14), none⟩,
               ⟨(some 18), .load none (.t 17), none⟩,
               ⟨(some 7), .mv (.t 16), none⟩,
               ⟨(some 8), .mv (.t 18), none⟩])
             (.seq
              (.reg none [⟨(some 9), .mv (.c .nils), none⟩])
              (.seq
               (.seq
                (.reg none [⟨(some 19), .mv (.t 8), none⟩,
                  ⟨(some 20), .len (.t 19), none⟩,
                  ⟨(some 21), .mv (.c (.int .i64 0)), none⟩])
                (.block 2
                 (.loop
                  (.seq
                   (.reg none [⟨(some 22), .bin .lss (.t 21) (.t 20), none⟩])
                   (.seq
                    (.cond (.t 22)
                     .skip
                     (.exit 2))
                    (.seq
                     (.block 3
                      (.seq
                       (.reg none [⟨(some 23), .mv (.t 21), none⟩,
                         ⟨(some 24), .iaddr 1 (.t 19) (.t 21), none⟩,
                         ⟨(some 25), .load none (.t 24), none⟩,
                         ⟨(some 10), .mv (.t 23), none⟩,
                         ⟨(some 11), .mv (.t 25), none⟩])
                       (.reg none [⟨(some 26), .mv (.t 9), none⟩,
                         ⟨(some 27), .mv (.t 11), none⟩,
                         ⟨(some 28), .mv (.t 1), none⟩,
                         ⟨(some 29), .mv (.t 7), none⟩,
                         ⟨(some 30), .iaddr 1 (.t 28) (.t 29), none⟩,
                         ⟨(some 31), .load none (.t 30), none⟩,
                         ⟨(some 32), .mv (.t 10), none⟩,
                         ⟨(some 33), .iaddr 1 (.t 31) (.t 32), none⟩,
                         ⟨(some 34), .load none (.t 33), none⟩,
                         ⟨(some 35), .bin .add (.t 27) (.t 34), none⟩,
                         ⟨(some 36), .bslice [(.int .i64 0)] 1 1 [(0, (.t 35))], none⟩,
                         ⟨(some 37), .append 1 8 (.t 26) (.t 36), none⟩,
                         ⟨(some 9), .mv (.t 37), none⟩])))
                     (.reg none [⟨(some 38), .bin .add (.t 21) (.c (.int .i64 1)), none⟩,
                       ⟨(some 21), .mv (.t 38), none⟩])))))))
               (.reg none [⟨(some 39), .mv (.t 6), none⟩,
                 ⟨(some 40), .mv (.t 9), none⟩,
                 ⟨(some 41), .bslice [.nils] 1 1 [(0, (.t 40))], none⟩,
                 ⟨(some 42), .append 1 24 (.t 39) (.t 41), none⟩,
                 ⟨(some 6), .mv (.t 42), none⟩])))))
           (.reg none [⟨(some 43), .bin .add (.t 14) (.c (.int .i64 1)), none⟩,
             ⟨(some 14), .mv (.t 43), none⟩])))))))
     (.seq
      (.seq
       (.reg none [⟨(some 44), .mv (.t 6), none⟩,
         ⟨(some 45), .call 22 [(.t 44)], none⟩,
         ⟨(some 46), .un .not (.t 45), none⟩])
       (.cond (.t 46)
        (.seq
         (.reg none [⟨(some 4), .mv (.c .nils), none⟩,
           ⟨(some 5), .mv (.c (.int .i64 4)), none⟩])
         .ret)
        .skip))
      (.seq
       (.reg none [⟨(some 47), .mv (.t 6), none⟩,
         ⟨(some 4), .mv (.t 47), none⟩,
         ⟨(some 5), .mv (.c (.int .i64 0)), none⟩])
       .ret))))) }
theorem f47P : prepF C Try.f47 = some f47A := by kernel_rfl

/-- congou/congouref06.Hidden -/
def f48A : AFunc :=
{ nargs := 2, res := [.t 4, .t 5], body :=
  (.seq
   (.reg none [⟨(some 4), .mv (.c (.b false)), none⟩,
     ⟨(some 5), .mv (.c (.int .i64 0)), none⟩])
   (.seq
    (.reg none [⟨(some 16), .mv (.t 0), none⟩,
      ⟨(some 17), .mv (.t 1), none⟩,
      ⟨(some 18), .call 47 [(.t 16), (.t 17)], none⟩,
      ⟨(some 15), .mv (.t 18), none⟩,
      ⟨(some 19), .extr (.t 15) 0, none⟩,
      ⟨(some 20), .extr (.t 15) 1, none⟩,
      ⟨(some 6), .mv (.t 19), none⟩,
      ⟨(some 7), .mv (.t 20), none⟩])
    (.seq
     (.seq
      (.reg none [⟨(some 21), .mv (.t 7), none⟩,
        ⟨(some 22), .bin .neq (.t 21) (.c (.int .i64 0)), none⟩])
      (.cond (.t 22)
       (.seq
        (.reg none [⟨(some 4), .mv (.c (.b false)), none⟩,
          ⟨(some 5), .mv (.c (.int .i64 5)), none⟩])
        .ret)
       .skip))
     (.seq
      (.reg none [⟨(some 24), .mv (.t 0), none⟩,
        ⟨(some 25), .call 31 [(.t 24)], none⟩,
        ⟨(some 23), .mv (.t 25), none⟩,
        ⟨(some 26), .extr (.t 23) 0, none⟩,
        ⟨(some 27), .extr (.t 23) 1, none⟩,
        ⟨(some 8), .alloc [(.int .i64 0), (.int .i64 0)], none⟩,
        ⟨none, .store 2 (.t 8) (.t 26), none⟩,
        ⟨(some 9), .mv (.t 27), none⟩])
      (.seq
       (.reg none [⟨(some 29), .mv (.t 1), none⟩,
         ⟨(some 30), .call 31 [(.t 29)], none⟩,
         ⟨(some 28), .mv (.t 30), none⟩,
         ⟨(some 31), .extr (.t 28) 0, none⟩,
         ⟨(some 32), .extr (.t 28) 1, none⟩,
         ⟨(some 10), .alloc [(.int .i64 0), (.int .i64 0)], none⟩,
         ⟨none, .store 2 (.t 10) (.t 31), none⟩,
         ⟨(some 11), .mv (.t 32), none⟩])
       (.seq
        (.reg none [⟨(some 34), .mv (.t 6), none⟩,
          ⟨(some 35), .call 31 [(.t 34)], none⟩,
          ⟨(some 33), .mv (.t 35), none⟩,
          ⟨(some 36), .extr (.t 33) 0, none⟩,
          ⟨(some 37), .extr (.t 33) 1, none⟩,
          ⟨(some 12), .alloc [(.int .i64 0), (.int .i64 0)], none⟩,
          ⟨none, .store 2 (.t 12) (.t 36), none⟩,
          ⟨(some 13), .mv (.t 37), none⟩])
        (.seq
         (.seq
          (.reg none [⟨(some 38), .mv (.t 9), none⟩,
            ⟨(some 39), .bin .neq (.t 38) (.c (.int .i64 0)), none⟩,
            ⟨(some 40), .mv (.t 39), none⟩,
            ⟨(some 41), .mv (.t 11), some (40, false)⟩,
            ⟨(some 42), .bin .neq (.t 41) (.c (.int .i64 0)), some (40, false)⟩,
            ⟨(some 43), .pick (.t 40) (.c (.b true)) (.t 42), none⟩,
            ⟨(some 44), .mv (.t 43), none⟩,
            ⟨(some 45), .mv (.t 13), some (44, false)⟩,
            ⟨(some 46), .bin .neq (.t 45) (.c (.int .i64 0)), some (44, false)⟩,
            ⟨(some 47), .pick (.t 44) (.c (.b true)) (.t 46), none⟩])
          (.cond (.t 47)
           (.seq
            (.reg none [⟨(some 4), .mv (.c (.b false)), none⟩,
              ⟨(some 5), .mv (.c (.int .i64 5)), none⟩])
            .ret)
           .skip))
         (.seq
          (.reg none [⟨(some 48), .build [(.int .i64 0), (.int .i64 0)] [(0, 1, (.c (.int .i64 1))), (1, 1, (.c (.int .i64 1)))], none⟩,
            ⟨(some 14), .alloc [(.int .i64 0), (.int .i64 0)], none⟩,
            ⟨none, .store 2 (.t 14) (.t 48), none⟩])
          (.seq
           (.reg none [⟨(some 49), .load (some 2) (.t 14), none⟩,
             ⟨(some 50), .load (some 2) (.t 8), none⟩,
             ⟨(some 51), .call 54 [(.t 49), (.t 50)], none⟩,
             ⟨(some 52), .mv (.t 51), none⟩,
             ⟨(some 53), .load (some 2) (.t 14), some (52, true)⟩,
             ⟨(some 54), .load (some 2) (.t 10), some (52, true)⟩,
             ⟨(some 55), .call 54 [(.t 53), (.t 54)], some (52, true)⟩,
             ⟨(some 56), .pick (.t 52) (.t 55) (.c (.b false)), none⟩,
             ⟨(some 57), .mv (.t 56), none⟩,
             ⟨(some 58), .load (some 2) (.t 12), some (57, true)⟩,
             ⟨(some 59), .load (some 2) (.t 14), some (57, true)⟩,
             ⟨(some 60), .call 54 [(.t 58), (.t 59)], some (57, true)⟩,
             ⟨(some 61), .pick (.t 57) (.t 60) (.c (.b false)), none⟩,
             ⟨(some 62), .mv (.t 61), none⟩,
             ⟨(some 63), .load (some 2) (.t 8), some (62, false)⟩,
             ⟨(some 64), .load (some 2) (.t 14), some (62, false)⟩,
             ⟨(some 65), .call 54 [(.t 63), (.t 64)], some (62, false)⟩,
             ⟨(some 66), .mv (.t 65), some (62, false)⟩,
             ⟨(some 67), .load (some 2) (.t 10), some (66, true)⟩,
             ⟨(some 68), .load (some 2) (.t 14), some (66, true)⟩,
             ⟨(some 69), .call 54 [(.t 67), (.t 68)], some (66, true)⟩,
             ⟨(some 70), .pick (.t 66) (.t 69) (.c (.b false)), some (62, false)⟩,
             ⟨(some 71), .mv (.t 70), some (62, false)⟩,
             ⟨(some 72), .load (some 2) (.t 14), some (71, true)⟩,
             ⟨(some 73), .load (some 2) (.t 12), some (71, true)⟩,
             ⟨(some 74), .call 54 [(.t 72), (.t 73)], some (71, true)⟩,
             ⟨(some 75), .pick (.t 71) (.t 74) (.c (.b false)), some (62, false)⟩,
             ⟨(some 76), .pick (.t 62) (.c (.b true)) (.t 75), none⟩,
             ⟨(some 4), .mv (.t 76), none⟩,
             ⟨(some 5), .mv (.c (.int .i64 0)), none⟩])
           .ret))))))))) }
theorem f48P : prepF C Try.f48 = some f48A := by kernel_rfl

/-- congou/congouref06.Less -/
def f54A : AFunc :=
{ nargs := 2, res := [.t 4], body :=
  (.seq
   (.reg none [⟨(some 2), .box (.t 0), none⟩,
     ⟨(some 3), .box (.t 1), none⟩,
     ⟨(some 4), .mv (.c (.b false)), none⟩])
   (.seq
    (.reg none [⟨(some 5), .faddr 0 (.t 2), none⟩,
      ⟨(some 6), .load none (.t 5), none⟩,
      ⟨(some 7), .faddr 1 (.t 3), none⟩,
      ⟨(some 8), .load none (.t 7), none⟩,
      ⟨(some 9), .bin .mul (.t 6) (.t 8), none⟩,
      ⟨(some 10), .faddr 0 (.t 3), none⟩,
      ⟨(some 11), .load none (.t 10), none⟩,
      ⟨(some 12), .faddr 1 (.t 2), none⟩,
      ⟨(some 13), .load none (.t 12), none⟩,
      ⟨(some 14), .bin .mul (.t 11) (.t 13), none⟩,
      ⟨(some 15), .bin .lss (.t 9) (.t 14), none⟩,
      ⟨(some 4), .mv (.t 15), none⟩])
    .ret)) }
theorem f54P : prepF C Try.f54 = some f54A := by kernel_rfl

/-- congou/congouref06.Frac -/
def f55A : AFunc :=
{ nargs := 2, res := [.c 4 (some 2)], body :=
  (.seq
   (.reg none [⟨(some 4), .alloc [(.int .i64 0), (.int .i64 0)], none⟩])
   (.seq
    (.reg none [⟨(some 7), .mv (.t 0), none⟩,
      ⟨(some 8), .mv (.t 0), none⟩,
      ⟨(some 9), .un .neg (.t 8), none⟩,
      ⟨(some 10), .mx [(.t 7), (.t 9)], none⟩,
      ⟨(some 11), .mv (.t 1), none⟩,
      ⟨(some 5), .mv (.t 10), none⟩,
      ⟨(some 6), .mv (.t 11), none⟩])
    (.seq
     (.block 0
      (.loop
       (.seq
        (.seq
         (.reg none [⟨(some 12), .mv (.t 6), none⟩,
           ⟨(some 13), .bin .neq (.t 12) (.c (.int .i64 0)), none⟩])
         (.cond (.t 13)
          .skip
          (.exit 0)))
        (.block 1
         (.reg (some []) [⟨(some 14), .mv (.t 6), none⟩,
           ⟨(some 15), .mv (.t 5), none⟩,
           ⟨(some 16), .mv (.t 6), none⟩,
           ⟨(some 17), .bin .rem (.t 15) (.t 16), none⟩,
           ⟨(some 5), .mv (.t 14), none⟩,
           ⟨(some 6), .mv (.t 17), none⟩])))))
     (.seq
      (.reg (some []) [⟨(some 18), .mv (.t 0), none⟩,
        ⟨(some 19), .mv (.t 5), none⟩,
        ⟨(some 20), .bin .quo (.t 18) (.t 19), none⟩,
        ⟨(some 21), .mv (.t 1), none⟩,
        ⟨(some 22), .mv (.t 5), none⟩,
        ⟨(some 23), .bin .quo (.t 21) (.t 22), none⟩,
        ⟨(some 24), .build [(.int .i64 0), (.int .i64 0)] [(0, 1, (.t 20)), (1, 1, (.t 23))], none⟩,
        ⟨none, .store 2 (.t 4) (.t 24), none⟩])
      .ret)))) }
theorem f55P : prepF C Try.f55 = some f55A := by kernel_rfl

/-- slices.Clone[[]int,int] -/
def f56A : AFunc :=
{ nargs := 1, res := [.t 2], body :=
  (.seq
   (.reg none [⟨(some 2), .mv (.c .nils), none⟩])
   (.seq
    (.seq
     (.reg none [⟨(some 3), .mv (.t 0), none⟩,
       ⟨(some 4), .seq false (.t 3) (.c .nils), none⟩])
     (.cond (.t 4)
      (.seq
       (.reg none [⟨(some 2), .mv (.c .nils), none⟩])
       .ret)
      .skip))
    (.seq
     (.reg none [⟨(some 5), .bslice [(.int .i64 0)] 0 1 [], none⟩,
       ⟨(some 6), .mv (.t 0), none⟩,
       ⟨(some 7), .append 1 8 (.t 5) (.t 6), none⟩,
       ⟨(some 2), .mv (.t 7), none⟩])
     .ret))) }
theorem f56P : prepF C Try.f56 = some f56A := by kernel_rfl

/-- (congou/counts.table).valid -/
def f70A : AFunc :=
{ nargs := 1, res := [.t 2], body :=
  (.seq
   (.reg none [⟨(some 2), .mv (.c (.b false)), none⟩])
   (.seq
    (.seq
     (.reg none [⟨(some 8), .mv (.t 0), none⟩,
       ⟨(some 9), .len (.t 8), none⟩,
       ⟨(some 10), .bin .lss (.t 9) (.c (.int .i64 1)), none⟩,
       ⟨(some 11), .mv (.t 10), none⟩,
       ⟨(some 12), .mv (.t 0), some (11, false)⟩,
       ⟨(some 13), .len (.t 12), some (11, false)⟩,
       ⟨(some 14), .bin .gtr (.t 13) (.c (.int .i64 3)), some (11, false)⟩,
       ⟨(some 15), .pick (.t 11) (.c (.b true)) (.t 14), none⟩])
     (.cond (.t 15)
      (.seq
       (.reg none [⟨(some 2), .mv (.c (.b false)), none⟩])
       .ret)
      .skip))
    (.seq
     (.reg none [⟨(some 3), .mv (.c (.int .i64 0)), none⟩])
     (.seq
      (.seq
       (.reg none [⟨(some 16), .mv (.t 0), none⟩,
         ⟨(some 17), .len (.t 16), none⟩,
         ⟨(some 18), .mv (.c (.int .i64 0)), none⟩])
       (.block 0
        (.loop
         (.seq
          (.reg none [⟨(some 19), .bin .lss (.t 18) (.t 17), none⟩])
          (.seq
           (.cond (.t 19)
            .skip
            (.exit 0))
           (.seq
            (.block 1
             (.seq
              (.reg none [⟨(some 20), .iaddr 1 (.t 16) (.t 18), none⟩,
                ⟨(some 21), .load none (.t 20), none⟩,
                ⟨(some 5), .mv (.t 21), none⟩])
              (.seq
               (.seq
                (.reg none [⟨(some 22), .mv (.t 5), none⟩,
                  ⟨(some 23), .len (.t 22), none⟩,
                  ⟨(some 24), .bin .lss (.t 23) (.c (.int .i64 1)), none⟩,
                  ⟨(some 25), .mv (.t 24), none⟩,
                  ⟨(some 26), .mv (.t 5), some (25, false)⟩,
                  ⟨(some 27), .len (.t 26), some (25, false)⟩,
                  ⟨(some 28), .bin .gtr (.t 27) (.c (.int .i64 3)), some (25, false)⟩,
                  ⟨(some 29), .pick (.t 25) (.c (.b true)) (.t 28), none⟩,
                  ⟨(some 30), .mv (.t 29), none⟩,
                  ⟨(some 31), .mv (.t 5), some (30, false)⟩,
                  ⟨(some 32), .len (.t 31), some (30, false)⟩,
                  ⟨(some 33), .mv (.t 0), some (30, false)⟩,
                  ⟨(some 34), .iaddr 1 (.t 33) (.c (.int .i64 0)), some (30, false)⟩,
                  ⟨(some 35), .load none (.t 34), some (30, false)⟩,
                  ⟨(some 36), .len (.t 35), some (30, false)⟩,
                  ⟨(some 37), .bin .neq (.t 32) (.t 36), some (30, false)⟩,
                  ⟨(some 38), .pick (.t 30) (.c (.b true)) (.t 37), none⟩,
                  ⟨(some 39), .mv (.t 38), none⟩,
                  ⟨(some 40), .mv (.t 5), some (39, false)⟩,
                  ⟨(some 41), .call 79 [(.t 40)], some (39, false)⟩,
                  ⟨(some 42), .un .not (.t 41), some (39, false)⟩,
                  ⟨(some 43), .pick (.t 39) (.c (.b true)) (.t 42), none⟩])
                (.cond (.t 43)
                 (.seq
                  (.reg none [⟨(some 2), .mv (.c (.b false)), none⟩])
                  .ret)
                 .skip))
               (.seq
                (.reg none [⟨(some 44), .mv (.t 5), none⟩,
                  ⟨(some 45), .len (.t 44), none⟩,
                  ⟨(some 46), .mv (.c (.int .i64 0)), none⟩])
                (.block 2
                 (.loop
                  (.seq
                   (.reg none [⟨(some 47), .bin .lss (.t 46) (.t 45), none⟩])
                   (.seq
                    (.cond (.t 47)
                     .skip
                     (.exit 2))
                    (.seq
                     (.block 3
                      (.seq
                       (.reg none [⟨(some 48), .iaddr 1 (.t 44) (.t 46), none⟩,
                         ⟨(some 49), .load none (.t 48), none⟩,
                         ⟨(some 7), .mv (.t 49), none⟩])
                       (.reg none [⟨(some 50), .mv (.t 3), none⟩,
                         ⟨(some 51), .mv (.t 7), none⟩,
                         ⟨(some 52), .bin .add (.t 50) (.t 51), none⟩,
                         ⟨(some 3), .mv (.t 52), none⟩])))
                     (.reg none [⟨(some 53), .bin .add (.t 46) (.c (.int .i64 1)), none⟩,
                       ⟨(some 46), .mv (.t 53), none⟩]))))))))))
            (.reg none [⟨(some 54), .bin .add (.t 18) (.c (.int .i64 1)), none⟩,
              ⟨(some 18), .mv (.t 54), none⟩])))))))
      (.seq
       (.reg none [⟨(some 55), .mv (.t 3), none⟩,
         ⟨(some 56), .bin .leq (.t 55) (.c (.int .i64 16)), none⟩,
         ⟨(some 2), .mv (.t 56), none⟩])
       .ret))))) }
theorem f70P : prepF C Try.f70 = some f70A := by kernel_rfl

/-- (congou/counts.table).sums -/
def f71A : AFunc :=
{ nargs := 1, res := [.t 2, .t 3], body :=
  (.seq
   (.reg none [⟨(some 2), .mv (.c .nils), none⟩,
     ⟨(some 3), .mv (.c .nils), none⟩])
   (.seq
    (.reg none [⟨(some 9), .mv (.t 0), none⟩,
      ⟨(some 10), .iaddr 1 (.t 9) (.c (.int .i64 0)), none⟩,
      ⟨(some 11), .load none (.t 10), none⟩,
      ⟨(some 12), .len (.t 11), none⟩,
      ⟨(some 13), .mkslice 1 8 [(.int .i64 0)] (.t 12), none⟩,
      ⟨(some 3), .mv (.t 13), none⟩])
    (.seq
     (.seq
      (.reg none [⟨(some 14), .mv (.t 0), none⟩,
        ⟨(some 15), .len (.t 14), none⟩,
        ⟨(some 16), .mv (.c (.int .i64 0)), none⟩])
      (.block 0
       (.loop
        (.seq
         (.reg none [⟨(some 17), .bin .lss (.t 16) (.t 15), none⟩])
         (.seq
          (.cond (.t 17)
           .skip
           (.exit 0))
          (.seq
           (.block 1
            (.seq
             (.reg none [⟨(some 18), .iaddr 1 (.t 14) (.t 16), none⟩,
               ⟨(some 19), .load none (.t 18), none⟩,
               ⟨(some 5), .mv (.t 19), none⟩])
             (.seq
              (.reg none [⟨(some 6), .mv (.c (.int .i64 0)), none⟩])
              (.seq
               (.seq
                (.reg none [⟨(some 20), .mv (.t 5), none⟩,
                  ⟨(some 21), .len (.t 20), none⟩,
                  ⟨(some 22), .mv (.c (.int .i64 0)), none⟩])
                (.block 2
                 (.loop
                  (.seq
                   (.reg none [⟨(some 23), .bin .lss (.t 22) (.t 21), none⟩])
                   (.seq
                    (.cond (.t 23)
                     .skip
                     (.exit 2))
                    (.seq
                     (.block 3
                      (.seq
                       (.reg none [⟨(some 24), .mv (.t 22), none⟩,
                         ⟨(some 25), .iaddr 1 (.t 20) (.t 22), none⟩,
                         ⟨(some 26), .load none (.t 25), none⟩,
                         ⟨(some 7), .mv (.t 24), none⟩,
                         ⟨(some 8), .mv (.t 26), none⟩])
                       (.seq
                        (.reg none [⟨(some 27), .mv (.t 6), none⟩,
                          ⟨(some 28), .mv (.t 8), none⟩,
                          ⟨(some 29), .bin .add (.t 27) (.t 28), none⟩,
                          ⟨(some 6), .mv (.t 29), none⟩])
                        (.reg none [⟨(some 30), .mv (.t 3), none⟩,
                          ⟨(some 31), .mv (.t 7), none⟩,
                          ⟨(some 32), .iaddr 1 (.t 30) (.t 31), none⟩,
                          ⟨(some 33), .load none (.t 32), none⟩,
                          ⟨(some 34), .mv (.t 8), none⟩,
                          ⟨(some 35), .bin .add (.t 33) (.t 34), none⟩,
                          ⟨(some 36), .iaddr 1 (.t 30) (.t 31), none⟩,
                          ⟨none, .store 1 (.t 36) (.t 35), none⟩]))))
                     (.reg none [⟨(some 37), .bin .add (.t 22) (.c (.int .i64 1)), none⟩,
                       ⟨(some 22), .mv (.t 37), none⟩])))))))
               (.reg none [⟨(some 38), .mv (.t 2), none⟩,
                 ⟨(some 39), .mv (.t 6), none⟩,
                 ⟨(some 40), .bslice [(.int .i64 0)] 1 1 [(0, (.t 39))], none⟩,
                 ⟨(some 41), .append 1 8 (.t 38) (.t 40), none⟩,
                 ⟨(some 2), .mv (.t 41), none⟩])))))
           (.reg none [⟨(some 42), .bin .add (.t 16) (.c (.int .i64 1)), none⟩,
             ⟨(some 16), .mv (.t 42), none⟩])))))))
     (.seq
      (.reg none [⟨(some 43), .mv (.t 2), none⟩,
        ⟨(some 44), .mv (.t 3), none⟩,
        ⟨(some 2), .mv (.t 43), none⟩,
        ⟨(some 3), .mv (.t 44), none⟩])
      .ret)))) }
theorem f71P : prepF C Try.f71 = some f71A := by kernel_rfl

/-- (congou/counts.table).four -/
def f72A : AFunc :=
{ nargs := 1, res := [.t 2], body :=
  (.seq
   (.reg none [⟨(some 2), .mv (.c (.b false)), none⟩])
   (.seq
    (.reg none [⟨(some 3), .mv (.t 0), none⟩,
      ⟨(some 4), .call 70 [(.t 3)], none⟩,
      ⟨(some 5), .mv (.t 4), none⟩,
      ⟨(some 6), .mv (.t 0), some (5, true)⟩,
      ⟨(some 7), .len (.t 6), some (5, true)⟩,
      ⟨(some 8), .bin .eql (.t 7) (.c (.int .i64 2)), some (5, true)⟩,
      ⟨(some 9), .pick (.t 5) (.t 8) (.c (.b false)), none⟩,
      ⟨(some 10), .mv (.t 9), none⟩,
      ⟨(some 11), .mv (.t 0), some (10, true)⟩,
      ⟨(some 12), .iaddr 1 (.t 11) (.c (.int .i64 0)), some (10, true)⟩,
      ⟨(some 13), .load none (.t 12), some (10, true)⟩,
      ⟨(some 14), .len (.t 13), some (10, true)⟩,
      ⟨(some 15), .bin .eql (.t 14) (.c (.int .i64 2)), some (10, true)⟩,
      ⟨(some 16), .pick (.t 10) (.t 15) (.c (.b false)), none⟩,
      ⟨(some 2), .mv (.t 16), none⟩])
    .ret)) }
theorem f72P : prepF C Try.f72 = some f72A := by kernel_rfl

/-- congou/counts.frac -/
def f73A : AFunc :=
{ nargs := 2, res := [.c 4 (some 2)], body :=
  (.seq
   (.reg none [⟨(some 4), .alloc [(.int .i64 0), (.int .i64 0)], none⟩])
   (.seq
    (.reg none [⟨(some 6), .mv (.t 0), none⟩,
      ⟨(some 7), .mv (.t 1), none⟩,
      ⟨(some 8), .call 99 [(.t 6), (.t 7)], none⟩,
      ⟨(some 5), .mv (.t 8), none⟩])
    (.seq
     (.reg (some []) [⟨(some 9), .mv (.t 0), none⟩,
       ⟨(some 10), .mv (.t 5), none⟩,
       ⟨(some 11), .bin .quo (.t 9) (.t 10), none⟩,
       ⟨(some 12), .mv (.t 1), none⟩,
       ⟨(some 13), .mv (.t 5), none⟩,
       ⟨(some 14), .bin .quo (.t 12) (.t 13), none⟩,
       ⟨(some 15), .build [(.int .i64 0), (.int .i64 0)] [(0, 1, (.t 11)), (1, 1, (.t 14))], none⟩,
       ⟨none, .store 2 (.t 4) (.t 15), none⟩])
     .ret))) }
theorem f73P : prepF C Try.f73 = some f73A := by kernel_rfl

/-- congou/counts.isSums -/
def f79A : AFunc :=
{ nargs := 1, res := [.t 2], body :=
  (.seq
   (.reg none [⟨(some 2), .mv (.c (.b false)), none⟩])
   (.seq
    (.reg none [⟨(some 3), .mv (.c (.int .i64 0)), none⟩])
    (.seq
     (.seq
      (.reg none [⟨(some 6), .mv (.t 0), none⟩,
        ⟨(some 7), .len (.t 6), none⟩,
        ⟨(some 8), .mv (.c (.int .i64 0)), none⟩])
      (.block 0
       (.loop
        (.seq
         (.reg none [⟨(some 9), .bin .lss (.t 8) (.t 7), none⟩])
         (.seq
          (.cond (.t 9)
           .skip
           (.exit 0))
          (.seq
           (.block 1
            (.seq
             (.reg none [⟨(some 10), .iaddr 1 (.t 6) (.t 8), none⟩,
               ⟨(some 11), .load none (.t 10), none⟩,
               ⟨(some 5), .mv (.t 11), none⟩])
             (.seq
              (.seq
               (.reg none [⟨(some 12), .mv (.t 5), none⟩,
                 ⟨(some 13), .bin .lss (.t 12) (.c (.int .i64 0)), none⟩,
                 ⟨(some 14), .mv (.t 13), none⟩,
                 ⟨(some 15), .mv (.t 5), some (14, false)⟩,
                 ⟨(some 16), .bin .gtr (.t 15) (.c (.int .i64 16)), some (14, false)⟩,
                 ⟨(some 17), .pick (.t 14) (.c (.b true)) (.t 16), none⟩])
               (.cond (.t 17)
                (.seq
                 (.reg none [⟨(some 2), .mv (.c (.b false)), none⟩])
                 .ret)
                .skip))
              (.reg none [⟨(some 18), .mv (.t 3), none⟩,
                ⟨(some 19), .mv (.t 5), none⟩,
                ⟨(some 20), .bin .add (.t 18) (.t 19), none⟩,
                ⟨(some 3), .mv (.t 20), none⟩]))))
           (.reg none [⟨(some 21), .bin .add (.t 8) (.c (.int .i64 1)), none⟩,
             ⟨(some 8), .mv (.t 21), none⟩])))))))
     (.seq
      (.reg none [⟨(some 22), .mv (.t 3), none⟩,
        ⟨(some 23), .bin .leq (.t 22) (.c (.int .i64 16)), none⟩,
        ⟨(some 2), .mv (.t 23), none⟩])
      .ret)))) }
theorem f79P : prepF C Try.f79 = some f79A := by kernel_rfl

/-- (congou/counts.table).clone -/
def f84A : AFunc :=
{ nargs := 1, res := [.t 2], body :=
  (.seq
   (.reg none [⟨(some 2), .mv (.c .nils), none⟩])
   (.seq
    (.reg none [⟨(some 3), .mv (.c .nils), none⟩])
    (.seq
     (.seq
      (.reg none [⟨(some 6), .mv (.t 0), none⟩,
        ⟨(some 7), .len (.t 6), none⟩,
        ⟨(some 8), .mv (.c (.int .i64 0)), none⟩])
      (.block 0
       (.loop
        (.seq
         (.reg none [⟨(some 9), .bin .lss (.t 8) (.t 7), none⟩])
         (.seq
          (.cond (.t 9)
           .skip
           (.exit 0))
          (.seq
           (.block 1
            (.seq
             (.reg none [⟨(some 10), .iaddr 1 (.t 6) (.t 8), none⟩,
               ⟨(some 11), .load none (.t 10), none⟩,
               ⟨(some 5), .mv (.t 11), none⟩])
             (.reg none [⟨(some 12), .mv (.t 3), none⟩,
               ⟨(some 13), .mv (.t 5), none⟩,
               ⟨(some 14), .call 56 [(.t 13)], none⟩,
               ⟨(some 15), .bslice [.nils] 1 1 [(0, (.t 14))], none⟩,
               ⟨(some 16), .append 1 24 (.t 12) (.t 15), none⟩,
               ⟨(some 3), .mv (.t 16), none⟩])))
           (.reg none [⟨(some 17), .bin .add (.t 8) (.c (.int .i64 1)), none⟩,
             ⟨(some 8), .mv (.t 17), none⟩])))))))
     (.seq
      (.reg none [⟨(some 18), .mv (.t 3), none⟩,
        ⟨(some 2), .mv (.t 18), none⟩])
      .ret)))) }
theorem f84P : prepF C Try.f84 = some f84A := by kernel_rfl

/-- cmp.Compare[int] -/
def f85A : AFunc :=
{ nargs := 2, res := [.t 4], body :=
  (.seq
   (.reg none [⟨(some 4), .mv (.c (.int .i64 0)), none⟩])
   (.seq
    (.reg none [⟨(some 7), .mv (.t 0), none⟩,
      ⟨(some 8), .call 102 [(.t 7)], none⟩,
      ⟨(some 5), .mv (.t 8), none⟩])
    (.seq
     (.reg none [⟨(some 9), .mv (.t 1), none⟩,
       ⟨(some 10), .call 102 [(.t 9)], none⟩,
       ⟨(some 6), .mv (.t 10), none⟩])
     (.seq
      (.seq
       (.reg none [⟨(some 11), .mv (.t 5), none⟩])
       (.cond (.t 11)
        (.seq
         (.seq
          (.reg none [⟨(some 12), .mv (.t 6), none⟩])
          (.cond (.t 12)
           (.seq
            (.reg none [⟨(some 4), .mv (.c (.int .i64 0)), none⟩])
            .ret)
           .skip))
         (.seq
          (.reg none [⟨(some 4), .mv (.c (.int .i64 (-1))), none⟩])
          .ret))
        .skip))
      (.seq
       (.seq
        (.reg none [⟨(some 13), .mv (.t 6), none⟩])
        (.cond (.t 13)
         (.seq
          (.reg none [⟨(some 4), .mv (.c (.int .i64 1)), none⟩])
          .ret)
         .skip))
       (.seq
        (.seq
         (.reg none [⟨(some 14), .mv (.t 0), none⟩,
           ⟨(some 15), .mv (.t 1), none⟩,
           ⟨(some 16), .bin .lss (.t 14) (.t 15), none⟩])
         (.cond (.t 16)
          (.seq
           (.reg none [⟨(some 4), .mv (.c (.int .i64 (-1))), none⟩])
           .ret)
          .skip))
        (.seq
         (.seq
          (.reg none [⟨(some 17), .mv (.t 0), none⟩,
            ⟨(some 18), .mv (.t 1), none⟩,
            ⟨(some 19), .bin .gtr (.t 17) (.t 18), none⟩])
          (.cond (.t 19)
           (.seq
            (.reg none [⟨(some 4), .mv (.c (.int .i64 1)), none⟩])
            .ret)
           .skip))
         (.seq
          (.reg none [⟨(some 4), .mv (.c (.int .i64 0)), none⟩])
          .ret)))))))) }
theorem f85P : prepF C Try.f85 = some f85A := by kernel_rfl

/-- congou/counts.gcd -/
def f99A : AFunc :=
{ nargs := 2, res := [.t 4], body :=
  (.seq
   (.reg none [⟨(some 4), .mv (.c (.int .i64 0)), none⟩])
   (.seq
    (.block 0
     (.loop
      (.seq
       (.seq
        (.reg none [⟨(some 5), .mv (.t 1), none⟩,
          ⟨(some 6), .bin .neq (.t 5) (.c (.int .i64 0)), none⟩])
        (.cond (.t 6)
         .skip
         (.exit 0)))
       (.block 1
        (.reg (some []) [⟨(some 7), .mv (.t 1), none⟩,
          ⟨(some 8), .mv (.t 0), none⟩,
          ⟨(some 9), .mv (.t 1), none⟩,
          ⟨(some 10), .bin .rem (.t 8) (.t 9), none⟩,
          ⟨(some 0), .mv (.t 7), none⟩,
          ⟨(some 1), .mv (.t 10), none⟩])))))
    (.seq
     (.reg none [⟨(some 11), .mv (.t 0), none⟩,
       ⟨(some 12), .mv (.t 0), none⟩,
       ⟨(some 13), .un .neg (.t 12), none⟩,
       ⟨(some 14), .mx [(.t 11), (.t 13)], none⟩,
       ⟨(some 4), .mv (.t 14), none⟩])
     .ret))) }
theorem f99P : prepF C Try.f99 = some f99A := by kernel_rfl

/-- cmp.isNaN[int] -/
def f102A : AFunc :=
{ nargs := 1, res := [.t 2], body :=
  (.seq
   (.reg none [⟨(some 2), .mv (.c (.b false)), none⟩])
   (.seq
    (.reg none [⟨(some 3), .mv (.t 0), none⟩,
      ⟨(some 4), .mv (.t 0), none⟩,
      ⟨(some 5), .bin .neq (.t 3) (.t 4), none⟩,
      ⟨(some 2), .mv (.t 5), none⟩])
    .ret)) }
theorem f102P : prepF C Try.f102 = some f102A := by kernel_rfl

end Go.Proofs.Ytflekaacffdakaa
