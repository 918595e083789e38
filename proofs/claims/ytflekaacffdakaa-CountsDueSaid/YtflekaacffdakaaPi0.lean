/- The abstract forms of the functions that are needed, each checked against the translation. No condition. -/
import Derived.Test.YtflekaacffdakaaAm1
import Derived.Test.YtflekaacffdakaaProg
namespace Go.Proofs.Ytflekaacffdakaa
open Go Go.AM Go.Proofs

/-- the seat's program; the types whose comparison is taken; the functions that may write to what is older -/
def kd : Nat → Kd := fun f => if [68, 80, 100].contains f then .wrt else if [23].contains f then .closed else .ro
noncomputable def C : Cfg := { P := Try.prog, eqT := fun t => if t == 37 then some 2 else if t == 88 then some 3 else none, kd := kd }
/-- congou/congoulaw06.CountsDue -/
def f8A : AFunc :=
{ nargs := 1, res := [.t 2], body :=
  (.seq
   (.reg none [⟨(some 2), .mv (.c (.b false)), none⟩])
   (.seq
    (.reg none [⟨(some 16), .mv (.t 0), none⟩,
      ⟨(some 17), .call 20 [(.t 16)], none⟩,
      ⟨(some 18), .call 35 [(.t 17)], none⟩,
      ⟨(some 15), .mv (.t 18), none⟩,
      ⟨(some 19), .extr (.t 15) 0, none⟩,
      ⟨(some 20), .extr (.t 15) 1, none⟩,
      ⟨(some 3), .alloc [(.int .i64 0), (.int .i64 0)], none⟩,
      ⟨none, .store 2 (.t 3) (.t 19), none⟩,
      ⟨(some 4), .mv (.t 20), none⟩])
    (.seq
     (.seq
      (.reg none [⟨(some 21), .mv (.t 0), none⟩,
        ⟨(some 22), .call 22 [(.t 21)], none⟩,
        ⟨(some 23), .un .not (.t 22), none⟩])
      (.cond (.t 23)
       (.seq
        (.reg none [⟨(some 24), .mv (.t 4), none⟩,
          ⟨(some 25), .bin .eql (.t 24) (.c (.int .i64 2)), none⟩,
          ⟨(some 26), .mv (.t 25), none⟩,
          ⟨(some 27), .call 23 [], some (26, true)⟩,
          ⟨(some 28), .pick (.t 26) (.t 27) (.c (.b false)), none⟩,
          ⟨(some 2), .mv (.t 28), none⟩])
        .ret)
       .skip))
     (.seq
      (.reg none [⟨(some 30), .mv (.t 0), none⟩,
        ⟨(some 31), .call 24 [(.t 30)], none⟩,
        ⟨(some 29), .mv (.t 31), none⟩,
        ⟨(some 32), .extr (.t 29) 0, none⟩,
        ⟨(some 33), .extr (.t 29) 1, none⟩,
        ⟨(some 5), .mv (.t 32), none⟩,
        ⟨(some 6), .mv (.t 33), none⟩])
      (.seq
       (.reg none [⟨(some 7), .mv (.c (.int .i64 0)), none⟩])
       (.seq
        (.seq
         (.reg none [⟨(some 34), .mv (.t 5), none⟩,
           ⟨(some 35), .len (.t 34), none⟩,
           ⟨(some 36), .mv (.c (.int .i64 0)), none⟩])
         (.block 0
          (.loop
           (.seq
            (.reg none [⟨(some 37), .bin .lss (.t 36) (.t 35), none⟩])
            (.seq
             (.cond (.t 37)
              .skip
              (.exit 0))
             (.seq
              (.block 1
               (.seq
                (.reg none [⟨(some 38), .iaddr 1 (.t 34) (.t 36), none⟩,
                  ⟨(some 39), .load none (.t 38), none⟩,
                  ⟨(some 9), .mv (.t 39), none⟩])
                (.reg none [⟨(some 40), .mv (.t 7), none⟩,
                  ⟨(some 41), .mv (.t 9), none⟩,
                  ⟨(some 42), .bin .add (.t 40) (.t 41), none⟩,
                  ⟨(some 7), .mv (.t 42), none⟩])))
              (.reg none [⟨(some 43), .bin .add (.t 36) (.c (.int .i64 1)), none⟩,
                ⟨(some 36), .mv (.t 43), none⟩])))))))
        (.seq
         (.seq
          (.reg none [⟨(some 44), .mv (.t 5), none⟩,
            ⟨(some 45), .call 37 [(.t 44), (.c (.int .i64 0))], none⟩,
            ⟨(some 46), .mv (.t 45), none⟩,
            ⟨(some 47), .mv (.t 6), some (46, false)⟩,
            ⟨(some 48), .call 37 [(.t 47), (.c (.int .i64 0))], some (46, false)⟩,
            ⟨(some 49), .pick (.t 46) (.c (.b true)) (.t 48), none⟩])
          (.cond (.t 49)
           (.seq
            (.reg none [⟨(some 50), .mv (.t 4), none⟩,
              ⟨(some 51), .bin .eql (.t 50) (.c (.int .i64 5)), none⟩,
              ⟨(some 52), .mv (.t 51), none⟩,
              ⟨(some 53), .call 23 [], some (52, true)⟩,
              ⟨(some 54), .pick (.t 52) (.t 53) (.c (.b false)), none⟩,
              ⟨(some 2), .mv (.t 54), none⟩])
            .ret)
           .skip))
         (.seq
          (.reg none [⟨(some 10), .mv (.c (.b true)), none⟩])
          (.seq
           (.seq
            (.reg none [⟨(some 55), .mv (.t 0), none⟩,
              ⟨(some 56), .len (.t 55), none⟩,
              ⟨(some 57), .mv (.c (.int .i64 0)), none⟩])
            (.block 2
             (.loop
              (.seq
               (.reg none [⟨(some 58), .bin .lss (.t 57) (.t 56), none⟩])
               (.seq
                (.cond (.t 58)
                 .skip
                 (.exit 2))
                (.seq
                 (.block 3
                  (.seq
                   (.reg none [⟨(some 59), .mv (.t 57), none⟩,
                     ⟨(some 60), .iaddr 1 (.t 55) (.t 57), none⟩,
                     ⟨(some 61), .load none (.t 60), none⟩,
                     ⟨(some 11), .mv (.t 59), none⟩,
                     ⟨(some 12), .mv (.t 61), none⟩])
                   (.seq
                    (.reg none [⟨(some 62), .mv (.t 12), none⟩,
                      ⟨(some 63), .len (.t 62), none⟩,
                      ⟨(some 64), .mv (.c (.int .i64 0)), none⟩])
                    (.block 4
                     (.loop
                      (.seq
                       (.reg none [⟨(some 65), .bin .lss (.t 64) (.t 63), none⟩])
                       (.seq
                        (.cond (.t 65)
                         .skip
                         (.exit 4))
                        (.seq
                         (.block 5
                          (.seq
                           (.reg none [⟨(some 66), .mv (.t 64), none⟩,
                             ⟨(some 67), .iaddr 1 (.t 62) (.t 64), none⟩,
                             ⟨(some 68), .load none (.t 67), none⟩,
                             ⟨(some 13), .mv (.t 66), none⟩,
                             ⟨(some 14), .mv (.t 68), none⟩])
                           (.reg (some []) [⟨(some 69), .mv (.t 10), none⟩,
                             ⟨(some 70), .mv (.t 69), none⟩,
                             ⟨(some 71), .mv (.t 14), some (70, true)⟩,
                             ⟨(some 72), .mv (.t 7), some (70, true)⟩,
                             ⟨(some 73), .bin .mul (.t 71) (.t 72), some (70, true)⟩,
                             ⟨(some 74), .mv (.t 5), some (70, true)⟩,
                             ⟨(some 75), .mv (.t 11), some (70, true)⟩,
                             ⟨(some 76), .iaddr 1 (.t 74) (.t 75), some (70, true)⟩,
                             ⟨(some 77), .load none (.t 76), some (70, true)⟩,
                             ⟨(some 78), .mv (.t 6), some (70, true)⟩,
                             ⟨(some 79), .mv (.t 13), some (70, true)⟩,
                             ⟨(some 80), .iaddr 1 (.t 78) (.t 79), some (70, true)⟩,
                             ⟨(some 81), .load none (.t 80), some (70, true)⟩,
                             ⟨(some 82), .bin .mul (.t 77) (.t 81), some (70, true)⟩,
                             ⟨(some 83), .bin .eql (.t 73) (.t 82), some (70, true)⟩,
                             ⟨(some 84), .pick (.t 70) (.t 83) (.c (.b false)), none⟩,
                             ⟨(some 10), .mv (.t 84), none⟩])))
                         (.reg none [⟨(some 85), .bin .add (.t 64) (.c (.int .i64 1)), none⟩,
                           ⟨(some 64), .mv (.t 85), none⟩])))))))))
                 (.reg none [⟨(some 86), .bin .add (.t 57) (.c (.int .i64 1)), none⟩,
                   ⟨(some 57), .mv (.t 86), none⟩])))))))
           (.seq
            (.reg none [⟨(some 87), .mv (.t 4), none⟩,
              ⟨(some 88), .bin .eql (.t 87) (.c (.int .i64 0)), none⟩,
              ⟨(some 89), .mv (.t 88), none⟩,
              ⟨(some 90), .faddr 1 (.t 3), some (89, true)⟩,
              ⟨(some 91), .load none (.t 90), some (89, true)⟩,
              ⟨(some 92), .bin .geq (.t 91) (.c (.int .i64 1)), some (89, true)⟩,
              ⟨(some 93), .pick (.t 89) (.t 92) (.c (.b false)), none⟩,
              ⟨(some 94), .mv (.t 93), none⟩,
              ⟨(some 95), .faddr 1 (.t 3), some (94, true)⟩,
              ⟨(some 96), .load none (.t 95), some (94, true)⟩,
              ⟨(some 97), .bin .leq (.t 96) (.c (.int .i64 1099511627776)), some (94, true)⟩,
              ⟨(some 98), .pick (.t 94) (.t 97) (.c (.b false)), none⟩,
              ⟨(some 99), .mv (.t 98), none⟩,
              ⟨(some 100), .faddr 0 (.t 3), some (99, true)⟩,
              ⟨(some 101), .load none (.t 100), some (99, true)⟩,
              ⟨(some 102), .bin .geq (.t 101) (.c (.int .i64 0)), some (99, true)⟩,
              ⟨(some 103), .pick (.t 99) (.t 102) (.c (.b false)), none⟩,
              ⟨(some 104), .mv (.t 103), none⟩,
              ⟨(some 105), .faddr 0 (.t 3), some (104, true)⟩,
              ⟨(some 106), .load none (.t 105), some (104, true)⟩,
              ⟨(some 107), .bin .leq (.t 106) (.c (.int .i64 1125899906842624)), some (104, true)⟩,
              ⟨(some 108), .pick (.t 104) (.t 107) (.c (.b false)), none⟩,
              ⟨(some 109), .mv (.t 108), none⟩,
              ⟨(some 110), .faddr 0 (.t 3), some (109, true)⟩,
              ⟨(some 111), .load none (.t 110), some (109, true)⟩,
              ⟨(some 112), .bin .eql (.t 111) (.c (.int .i64 0)), some (109, true)⟩,
              ⟨(some 113), .mv (.t 10), some (109, true)⟩,
              ⟨(some 114), .beq false (.t 112) (.t 113), some (109, true)⟩,
              ⟨(some 115), .pick (.t 109) (.t 114) (.c (.b false)), none⟩,
              ⟨(some 116), .mv (.t 115), none⟩,
              ⟨(some 117), .faddr 0 (.t 3), some (116, true)⟩,
              ⟨(some 118), .load none (.t 117), some (116, true)⟩,
              ⟨(some 119), .mv (.t 7), some (116, true)⟩,
              ⟨(some 120), .mv (.t 5), some (116, true)⟩,
              ⟨(some 121), .len (.t 120), some (116, true)⟩,
              ⟨(some 122), .mv (.t 6), some (116, true)⟩,
              ⟨(some 123), .len (.t 122), some (116, true)⟩,
              ⟨(some 124), .mn [(.t 121), (.t 123)], some (116, true)⟩,
              ⟨(some 125), .bin .sub (.t 124) (.c (.int .i64 1)), some (116, true)⟩,
              ⟨(some 126), .bin .mul (.t 119) (.t 125), some (116, true)⟩,
              ⟨(some 127), .faddr 1 (.t 3), some (116, true)⟩,
              ⟨(some 128), .load none (.t 127), some (116, true)⟩,
              ⟨(some 129), .bin .mul (.t 126) (.t 128), some (116, true)⟩,
              ⟨(some 130), .bin .leq (.t 118) (.t 129), some (116, true)⟩,
              ⟨(some 131), .pick (.t 116) (.t 130) (.c (.b false)), none⟩,
              ⟨(some 132), .mv (.t 131), none⟩,
              ⟨(some 133), .call 23 [], some (132, true)⟩,
              ⟨(some 134), .pick (.t 132) (.t 133) (.c (.b false)), none⟩,
              ⟨(some 2), .mv (.t 134), none⟩])
            .ret)))))))))) }
theorem f8P : prepF C Try.f8 = some f8A := by kernel_rfl

/-- congou/counts.Sums -/
def f19A : AFunc :=
{ nargs := 1, res := [.t 2, .t 3, .t 4], body :=
  (.seq
   (.reg none [⟨(some 2), .mv (.c .nils), none⟩,
     ⟨(some 3), .mv (.c .nils), none⟩,
     ⟨(some 4), .mv (.c (.int .i64 0)), none⟩])
   (.seq
    (.seq
     (.reg none [⟨(some 5), .mv (.t 0), none⟩,
       ⟨(some 6), .call 70 [(.t 5)], none⟩,
       ⟨(some 7), .un .not (.t 6), none⟩])
     (.cond (.t 7)
      (.seq
       (.reg none [⟨(some 2), .mv (.c .nils), none⟩,
         ⟨(some 3), .mv (.c .nils), none⟩,
         ⟨(some 4), .mv (.c (.int .i64 2)), none⟩])
       .ret)
      .skip))
    (.seq
     (.reg none [⟨(some 9), .mv (.t 0), none⟩,
       ⟨(some 10), .call 71 [(.t 9)], none⟩,
       ⟨(some 8), .mv (.t 10), none⟩,
       ⟨(some 11), .extr (.t 8) 0, none⟩,
       ⟨(some 12), .extr (.t 8) 1, none⟩,
       ⟨(some 2), .mv (.t 11), none⟩,
       ⟨(some 3), .mv (.t 12), none⟩])
     (.seq
      (.reg none [⟨(some 13), .mv (.t 2), none⟩,
        ⟨(some 14), .mv (.t 3), none⟩,
        ⟨(some 2), .mv (.t 13), none⟩,
        ⟨(some 3), .mv (.t 14), none⟩,
        ⟨(some 4), .mv (.c (.int .i64 0)), none⟩])
      .ret)))) }
theorem f19P : prepF C Try.f19 = some f19A := by kernel_rfl

/-- congou/congoulaw06.table -/
def f20A : AFunc :=
{ nargs := 1, res := [.t 2], body :=
  (.seq
   (.reg none [⟨(some 2), .mv (.c .nils), none⟩])
   (.seq
    (.reg none [⟨(some 3), .mv (.c .nils), none⟩])
    (.seq
     (.seq
      (.reg none [⟨(some 6), .mv (.t 0), none⟩,
        ⟨(some 7), .len (.t 6), none⟩,
        ⟨(some 8), .mv (.c (.int .i64 0)), none⟩])
      (.block 0
       (.loop
        (.seq
         (.reg none [⟨(some 9), .bin .lss (.t 8) (.t 7), none⟩])
         (.seq
          (.cond (.t 9)
           .skip
           (.exit 0))
          (.seq
           (.block 1
            (.seq
             (.reg none [⟨(some 10), .mv (.t 8), none⟩,
               ⟨(some 11), .iaddr 1 (.t 6) (.t 8), none⟩,
               ⟨(some 12), .load none (.t 11), none⟩,
               ⟨(some 4), .mv (.t 10), none⟩,
               ⟨(some 5), .mv (.t 12), none⟩])
             (.seq
              (.reg none [⟨(some 13), .mv (.t 4), none⟩,
                ⟨(some 14), .bin .lss (.t 13) (.c (.int .i64 6)), none⟩])
              (.cond (.t 14)
               (.reg none [⟨(some 15), .mv (.t 3), none⟩,
                 ⟨(some 16), .mv (.t 5), none⟩,
                 ⟨(some 17), .call 39 [(.t 16)], none⟩,
                 ⟨(some 18), .bslice [.nils] 1 1 [(0, (.t 17))], none⟩,
                 ⟨(some 19), .append 1 24 (.t 15) (.t 18), none⟩,
                 ⟨(some 3), .mv (.t 19), none⟩])
               .skip))))
           (.reg none [⟨(some 20), .bin .add (.t 8) (.c (.int .i64 1)), none⟩,
             ⟨(some 8), .mv (.t 20), none⟩])))))))
     (.seq
      (.reg none [⟨(some 21), .mv (.t 3), none⟩,
        ⟨(some 2), .mv (.t 21), none⟩])
      .ret)))) }
theorem f20P : prepF C Try.f20 = some f20A := by kernel_rfl

/-- congou/congouref06.Table -/
def f22A : AFunc :=
{ nargs := 1, res := [.t 2], body :=
  (.seq
   (.reg none [⟨(some 2), .mv (.c (.b false)), none⟩])
   (.seq
    (.reg none [⟨(some 3), .mv (.c (.int .i64 0)), none⟩])
    (.seq
     (.seq
      (.reg none [⟨(some 8), .mv (.t 0), none⟩,
        ⟨(some 9), .len (.t 8), none⟩,
        ⟨(some 10), .mv (.c (.int .i64 0)), none⟩])
      (.block 0
       (.loop
        (.seq
         (.reg none [⟨(some 11), .bin .lss (.t 10) (.t 9), none⟩])
         (.seq
          (.cond (.t 11)
           .skip
           (.exit 0))
          (.seq
           (.block 1
            (.seq
             (.reg none [⟨(some 12), .iaddr 1 (.t 8) (.t 10), none⟩,
               ⟨(some 13), .load none (.t 12), none⟩,
               ⟨(some 5), .mv (.t 13), none⟩])
             (.seq
              (.seq
               (.reg none [⟨(some 14), .mv (.t 5), none⟩,
                 ⟨(some 15), .len (.t 14), none⟩,
                 ⟨(some 16), .mv (.t 0), none⟩,
                 ⟨(some 17), .iaddr 1 (.t 16) (.c (.int .i64 0)), none⟩,
                 ⟨(some 18), .load none (.t 17), none⟩,
                 ⟨(some 19), .len (.t 18), none⟩,
                 ⟨(some 20), .bin .neq (.t 15) (.t 19), none⟩,
                 ⟨(some 21), .mv (.t 20), none⟩,
                 ⟨(some 22), .mv (.t 5), some (21, false)⟩,
                 ⟨(some 23), .len (.t 22), some (21, false)⟩,
                 ⟨(some 24), .bin .lss (.t 23) (.c (.int .i64 1)), some (21, false)⟩,
                 ⟨(some 25), .pick (.t 21) (.c (.b true)) (.t 24), none⟩,
                 ⟨(some 26), .mv (.t 25), none⟩,
                 ⟨(some 27), .mv (.t 5), some (26, false)⟩,
                 ⟨(some 28), .len (.t 27), some (26, false)⟩,
                 ⟨(some 29), .bin .gtr (.t 28) (.c (.int .i64 3)), some (26, false)⟩,
                 ⟨(some 30), .pick (.t 26) (.c (.b true)) (.t 29), none⟩])
               (.cond (.t 30)
                (.seq
                 (.reg none [⟨(some 2), .mv (.c (.b false)), none⟩])
                 .ret)
                .skip))
              (.seq
               (.reg none [⟨(some 31), .mv (.t 5), none⟩,
                 ⟨(some 32), .len (.t 31), none⟩,
                 ⟨(some 33), .mv (.c (.int .i64 0)), none⟩])
               (.block 2
                (.loop
                 (.seq
                  (.reg none [⟨(some 34), .bin .lss (.t 33) (.t 32), none⟩])
                  (.seq
                   (.cond (.t 34)
                    .skip
                    (.exit 2))
                   (.seq
                    (.block 3
                     (.seq
                      (.reg none [⟨(some 35), .iaddr 1 (.t 31) (.t 33), none⟩,
                        ⟨(some 36), .load none (.t 35), none⟩,
                        ⟨(some 7), .mv (.t 36), none⟩])
                      (.seq
                       (.seq
                        (.reg none [⟨(some 37), .mv (.t 7), none⟩,
                          ⟨(some 38), .bin .lss (.t 37) (.c (.int .i64 0)), none⟩,
                          ⟨(some 39), .mv (.t 38), none⟩,
                          ⟨(some 40), .mv (.t 7), some (39, false)⟩,
                          ⟨(some 41), .bin .gtr (.t 40) (.c (.int .i64 16)), some (39, false)⟩,
                          ⟨(some 42), .pick (.t 39) (.c (.b true)) (.t 41), none⟩])
                        (.cond (.t 42)
                         (.seq
                          (.reg none [⟨(some 2), .mv (.c (.b false)), none⟩])
                          .ret)
                         .skip))
                       (.reg none [⟨(some 43), .mv (.t 3), none⟩,
                         ⟨(some 44), .mv (.t 7), none⟩,
                         ⟨(some 45), .bin .add (.t 43) (.t 44), none⟩,
                         ⟨(some 3), .mv (.t 45), none⟩]))))
                    (.reg none [⟨(some 46), .bin .add (.t 33) (.c (.int .i64 1)), none⟩,
                      ⟨(some 33), .mv (.t 46), none⟩]))))))))))
           (.reg none [⟨(some 47), .bin .add (.t 10) (.c (.int .i64 1)), none⟩,
             ⟨(some 10), .mv (.t 47), none⟩])))))))
     (.seq
      (.reg none [⟨(some 48), .mv (.t 0), none⟩,
        ⟨(some 49), .len (.t 48), none⟩,
        ⟨(some 50), .bin .geq (.t 49) (.c (.int .i64 1)), none⟩,
        ⟨(some 51), .mv (.t 50), none⟩,
        ⟨(some 52), .mv (.t 0), some (51, true)⟩,
        ⟨(some 53), .len (.t 52), some (51, true)⟩,
        ⟨(some 54), .bin .leq (.t 53) (.c (.int .i64 3)), some (51, true)⟩,
        ⟨(some 55), .pick (.t 51) (.t 54) (.c (.b false)), none⟩,
        ⟨(some 56), .mv (.t 55), none⟩,
        ⟨(some 57), .mv (.t 3), some (56, true)⟩,
        ⟨(some 58), .bin .leq (.t 57) (.c (.int .i64 16)), some (56, true)⟩,
        ⟨(some 59), .pick (.t 56) (.t 58) (.c (.b false)), none⟩,
        ⟨(some 2), .mv (.t 59), none⟩])
      .ret)))) }
theorem f22P : prepF C Try.f22 = some f22A := by kernel_rfl

/-- congou/congoulaw06.awake -/
def f23A : AFunc :=
{ nargs := 0, res := [.t 0], body :=
  (.seq
   (.reg none [⟨(some 0), .mv (.c (.b false)), none⟩])
   (.seq
    (.reg none [⟨(some 5), .bslice [(.int .i64 0)] 2 1 [(0, (.c (.int .i64 1))), (1, (.c (.int .i64 2)))], none⟩,
      ⟨(some 6), .bslice [(.int .i64 0)] 2 1 [(0, (.c (.int .i64 3))), (1, (.c (.int .i64 4)))], none⟩,
      ⟨(some 7), .bslice [.nils] 2 1 [(0, (.t 5)), (1, (.t 6))], none⟩,
      ⟨(some 8), .call 19 [(.t 7)], none⟩,
      ⟨(some 4), .mv (.t 8), none⟩,
      ⟨(some 9), .extr (.t 4) 0, none⟩,
      ⟨(some 10), .extr (.t 4) 1, none⟩,
      ⟨(some 11), .extr (.t 4) 2, none⟩,
      ⟨(some 1), .mv (.t 9), none⟩,
      ⟨(some 2), .mv (.t 10), none⟩,
      ⟨(some 3), .mv (.t 11), none⟩])
    (.seq
     (.reg none [⟨(some 12), .mv (.t 3), none⟩,
       ⟨(some 13), .bin .eql (.t 12) (.c (.int .i64 0)), none⟩,
       ⟨(some 14), .mv (.t 13), none⟩,
       ⟨(some 15), .mv (.t 1), some (14, true)⟩,
       ⟨(some 16), .bslice [(.int .i64 0)] 2 1 [(0, (.c (.int .i64 3))), (1, (.c (.int .i64 7)))], some (14, true)⟩,
       ⟨(some 17), .call 25 [(.t 15), (.t 16)], some (14, true)⟩,
       ⟨(some 18), .pick (.t 14) (.t 17) (.c (.b false)), none⟩,
       ⟨(some 19), .mv (.t 18), none⟩,
       ⟨(some 20), .mv (.t 2), some (19, true)⟩,
       ⟨(some 21), .bslice [(.int .i64 0)] 2 1 [(0, (.c (.int .i64 4))), (1, (.c (.int .i64 6)))], some (19, true)⟩,
       ⟨(some 22), .call 25 [(.t 20), (.t 21)], some (19, true)⟩,
       ⟨(some 23), .pick (.t 19) (.t 22) (.c (.b false)), none⟩,
       ⟨(some 0), .mv (.t 23), none⟩])
     .ret))) }
theorem f23P : prepF C Try.f23 = some f23A := by kernel_rfl

/-- congou/congouref06.Sums -/
def f24A : AFunc :=
{ nargs := 1, res := [.t 2, .t 3], body :=
  (.seq
   (.reg none [⟨(some 2), .mv (.c .nils), none⟩,
     ⟨(some 3), .mv (.c .nils), none⟩])
   (.seq
    (.reg (some []) [⟨(some 10), .mv (.t 0), none⟩,
      ⟨(some 11), .len (.t 10), none⟩,
      ⟨(some 12), .mkslice 1 8 [(.int .i64 0)] (.t 11), none⟩,
      ⟨(some 13), .mv (.t 0), none⟩,
      ⟨(some 14), .iaddr 1 (.t 13) (.c (.int .i64 0)), none⟩,
      ⟨(some 15), .load none (.t 14), none⟩,
      ⟨(some 16), .len (.t 15), none⟩,
      ⟨(some 17), .mkslice 1 8 [(.int .i64 0)] (.t 16), none⟩,
      ⟨(some 4), .mv (.t 12), none⟩,
      ⟨(some 5), .mv (.t 17), none⟩])
    (.seq
     (.seq
      (.reg none [⟨(some 18), .mv (.t 0), none⟩,
        ⟨(some 19), .len (.t 18), none⟩,
        ⟨(some 20), .mv (.c (.int .i64 0)), none⟩])
      (.block 0
       (.loop
        (.seq
         (.reg none [⟨(some 21), .bin .lss (.t 20) (.t 19), none⟩])
         (.seq
          (.cond (.t 21)
           .skip
           (.exit 0))
          (.seq
           (.block 1
            (.seq
             (.reg none [⟨(some 22), .mv (.t 20), none⟩,
               ⟨(some 23), .iaddr 1 (.t 18) (.t 20), none⟩,
               ⟨(some 24), .load none (.t 23), none⟩,
               ⟨(some 6), .mv (.t 22), none⟩,
               ⟨(some 7), .mv (.t 24), none⟩])
             (.seq
              (.reg none [⟨(some 25), .mv (.t 7), none⟩,
                ⟨(some 26), .len (.t 25), none⟩,
                ⟨(some 27), .mv (.c (.int .i64 0)), none⟩])
              (.block 2
               (.loop
                (.seq
                 (.reg none [⟨(some 28), .bin .lss (.t 27) (.t 26), none⟩])
                 (.seq
                  (.cond (.t 28)
                   .skip
                   (.exit 2))
                  (.seq
                   (.block 3
                    (.seq
                     (.reg none [⟨(some 29), .mv (.t 27), none⟩,
                       ⟨(some 30), .iaddr 1 (.t 25) (.t 27), none⟩,
                       ⟨(some 31), .load none (.t 30), none⟩,
                       ⟨(some 8), .mv (.t 29), none⟩,
                       ⟨(some 9), .mv (.t 31), none⟩])
                     (.seq
                      (.reg none [⟨(some 32), .mv (.t 4), none⟩,
                        ⟨(some 33), .mv (.t 6), none⟩,
                        ⟨(some 34), .iaddr 1 (.t 32) (.t 33), none⟩,
                        ⟨(some 35), .load none (.t 34), none⟩,
                        ⟨(some 36), .mv (.t 9), none⟩,
                        ⟨(some 37), .bin .add (.t 35) (.t 36), none⟩,
                        ⟨(some 38), .iaddr 1 (.t 32) (.t 33), none⟩,
                        ⟨none, .store 1 (.t 38) (.t 37), none⟩])
                      (.reg none [⟨(some 39), .mv (.t 5), none⟩,
                        ⟨(some 40), .mv (.t 8), none⟩,
                        ⟨(some 41), .iaddr 1 (.t 39) (.t 40), none⟩,
                        ⟨(some 42), .load none (.t 41), none⟩,
                        ⟨(some 43), .mv (.t 9), none⟩,
                        ⟨(some 44), .bin .add (.t 42) (.t 43), none⟩,
                        ⟨(some 45), .iaddr 1 (.t 39) (.t 40), none⟩,
                        ⟨none, .store 1 (.t 45) (.t 44), none⟩]))))
                   (.reg none [⟨(some 46), .bin .add (.t 27) (.c (.int .i64 1)), none⟩,
                     ⟨(some 27), .mv (.t 46), none⟩])))))))))
           (.reg none [⟨(some 47), .bin .add (.t 20) (.c (.int .i64 1)), none⟩,
             ⟨(some 20), .mv (.t 47), none⟩])))))))
     (.seq
      (.reg none [⟨(some 48), .mv (.t 4), none⟩,
        ⟨(some 49), .mv (.t 5), none⟩,
        ⟨(some 2), .mv (.t 48), none⟩,
        ⟨(some 3), .mv (.t 49), none⟩])
      .ret)))) }
theorem f24P : prepF C Try.f24 = some f24A := by kernel_rfl

/-- slices.Equal[[]int,int] -/
def f25A : AFunc :=
{ nargs := 2, res := [.t 4], body :=
  (.seq
   (.reg none [⟨(some 4), .mv (.c (.b false)), none⟩])
   (.seq
    (.seq
     (.reg none [⟨(some 6), .mv (.t 0), none⟩,
       ⟨(some 7), .len (.t 6), none⟩,
       ⟨(some 8), .mv (.t 1), none⟩,
       ⟨(some 9), .len (.t 8), none⟩,
       ⟨(some 10), .bin .neq (.t 7) (.t 9), none⟩])
     (.cond (.t 10)
      (.seq
       (.reg none [⟨(some 4), .mv (.c (.b false)), none⟩])
       .ret)
      .skip))
    (.seq
     (.seq
      (.reg none [⟨(some 11), .mv (.t 0), none⟩,
        ⟨(some 12), .len (.t 11), none⟩,
        ⟨(some 13), .mv (.c (.int .i64 0)), none⟩])
      (.block 0
       (.loop
        (.seq
         (.reg none [⟨(some 14), .bin .lss (.t 13) (.t 12), none⟩])
         (.seq
          (.cond (.t 14)
           .skip
           (.exit 0))
          (.seq
           (.block 1
            (.seq
             (.reg none [⟨(some 15), .mv (.t 13), none⟩,
               ⟨(some 5), .mv (.t 15), none⟩])
             (.seq
              (.reg (some []) [⟨(some 16), .mv (.t 0), none⟩,
                ⟨(some 17), .mv (.t 5), none⟩,
                ⟨(some 18), .iaddr 1 (.t 16) (.t 17), none⟩,
                ⟨(some 19), .load none (.t 18), none⟩,
                ⟨(some 20), .mv (.t 1), none⟩,
                ⟨(some 21), .mv (.t 5), none⟩,
                ⟨(some 22), .iaddr 1 (.t 20) (.t 21), none⟩,
                ⟨(some 23), .load none (.t 22), none⟩,
                ⟨(some 24), .bin .neq (.t 19) (.t 23), none⟩])
              (.cond (.t 24)
               (.seq
                (.reg none [⟨(some 4), .mv (.c (.b false)), none⟩])
                .ret)
               .skip))))
           (.reg none [⟨(some 25), .bin .add (.t 13) (.c (.int .i64 1)), none⟩,
             ⟨(some 13), .mv (.t 25), none⟩])))))))
     (.seq
      (.reg none [⟨(some 4), .mv (.c (.b true)), none⟩])
      .ret)))) }
theorem f25P : prepF C Try.f25 = some f25A := by kernel_rfl

/-- congou/counts.Off -/
def f35A : AFunc :=
{ nargs := 1, res := [.c 2 (some 2), .t 3], body :=
  (.seq
   (.reg none [⟨(some 2), .alloc [(.int .i64 0), (.int .i64 0)], none⟩,
     ⟨(some 3), .mv (.c (.int .i64 0)), none⟩])
   (.seq
    (.seq
     (.reg none [⟨(some 16), .mv (.t 0), none⟩,
       ⟨(some 17), .call 70 [(.t 16)], none⟩,
       ⟨(some 18), .un .not (.t 17), none⟩])
     (.cond (.t 18)
      (.seq
       (.reg none [⟨(some 19), .build [(.int .i64 0), (.int .i64 0)] [], none⟩,
         ⟨none, .store 2 (.t 2) (.t 19), none⟩,
         ⟨(some 3), .mv (.c (.int .i64 2)), none⟩])
       .ret)
      .skip))
    (.seq
     (.reg none [⟨(some 21), .mv (.t 0), none⟩,
       ⟨(some 22), .call 71 [(.t 21)], none⟩,
       ⟨(some 20), .mv (.t 22), none⟩,
       ⟨(some 23), .extr (.t 20) 0, none⟩,
       ⟨(some 24), .extr (.t 20) 1, none⟩,
       ⟨(some 4), .mv (.t 23), none⟩,
       ⟨(some 5), .mv (.t 24), none⟩])
     (.seq
      (.seq
       (.reg none [⟨(some 25), .mv (.t 4), none⟩,
         ⟨(some 26), .call 75 [(.t 25)], none⟩,
         ⟨(some 27), .bin .eql (.t 26) (.c (.int .i64 0)), none⟩,
         ⟨(some 28), .mv (.t 27), none⟩,
         ⟨(some 29), .mv (.t 5), some (28, false)⟩,
         ⟨(some 30), .call 75 [(.t 29)], some (28, false)⟩,
         ⟨(some 31), .bin .eql (.t 30) (.c (.int .i64 0)), some (28, false)⟩,
         ⟨(some 32), .pick (.t 28) (.c (.b true)) (.t 31), none⟩])
       (.cond (.t 32)
        (.seq
         (.reg none [⟨(some 33), .build [(.int .i64 0), (.int .i64 0)] [], none⟩,
           ⟨none, .store 2 (.t 2) (.t 33), none⟩,
           ⟨(some 3), .mv (.c (.int .i64 5)), none⟩])
         .ret)
        .skip))
      (.seq
       (.reg none [⟨(some 6), .mv (.c (.int .i64 0)), none⟩])
       (.seq
        (.seq
         (.reg none [⟨(some 34), .mv (.t 4), none⟩,
           ⟨(some 35), .len (.t 34), none⟩,
           ⟨(some 36), .mv (.c (.int .i64 0)), none⟩])
         (.block 0
          (.loop
           (.seq
            (.reg none [⟨(some 37), .bin .lss (.t 36) (.t 35), none⟩])
            (.seq
             (.cond (.t 37)
              .skip
              (.exit 0))
             (.seq
              (.block 1
               (.seq
                (.reg none [⟨(some 38), .iaddr 1 (.t 34) (.t 36), none⟩,
                  ⟨(some 39), .load none (.t 38), none⟩,
                  ⟨(some 8), .mv (.t 39), none⟩])
                (.reg none [⟨(some 40), .mv (.t 6), none⟩,
                  ⟨(some 41), .mv (.t 8), none⟩,
                  ⟨(some 42), .bin .add (.t 40) (.t 41), none⟩,
                  ⟨(some 6), .mv (.t 42), none⟩])))
              (.reg none [⟨(some 43), .bin .add (.t 36) (.c (.int .i64 1)), none⟩,
                ⟨(some 36), .mv (.t 43), none⟩])))))))
        (.seq
         (.reg none [⟨(some 44), .call 73 [(.c (.int .i64 0)), (.c (.int .i64 1))], none⟩,
           ⟨(some 9), .alloc [(.int .i64 0), (.int .i64 0)], none⟩,
           ⟨none, .store 2 (.t 9) (.t 44), none⟩])
         (.seq
          (.seq
           (.reg none [⟨(some 45), .mv (.t 0), none⟩,
             ⟨(some 46), .len (.t 45), none⟩,
             ⟨(some 47), .mv (.c (.int .i64 0)), none⟩])
           (.block 2
            (.loop
             (.seq
              (.reg none [⟨(some 48), .bin .lss (.t 47) (.t 46), none⟩])
              (.seq
               (.cond (.t 48)
                .skip
                (.exit 2))
               (.seq
                (.block 3
                 (.seq
                  (.reg none [⟨(some 49), .mv (.t 47), none⟩,
                    ⟨(some 50), .iaddr 1 (.t 45) (.t 47), none⟩,
                    ⟨(some 51), .load none (.t 50), none⟩,
                    ⟨(some 10), .mv (.t 49), none⟩,
                    ⟨(some 11), .mv (.t 51), none⟩])
                  (.seq
                   (.reg none [⟨(some 52), .mv (.t 11), none⟩,
                     ⟨(some 53), .len (.t 52), none⟩,
                     ⟨(some 54), .mv (.c (.int .i64 0)), none⟩])
                   (.block 4
                    (.loop
                     (.seq
                      (.reg none [⟨(some 55), .bin .lss (.t 54) (.t 53), none⟩])
                      (.seq
                       (.cond (.t 55)
                        .skip
                        (.exit 4))
                       (.seq
                        (.block 5
                         (.seq
                          (.reg none [⟨(some 56), .mv (.t 54), none⟩,
                            ⟨(some 57), .iaddr 1 (.t 52) (.t 54), none⟩,
                            ⟨(some 58), .load none (.t 57), none⟩,
                            ⟨(some 12), .mv (.t 56), none⟩,
                            ⟨(some 13), .mv (.t 58), none⟩])
                          (.seq
                           (.reg (some []) [⟨(some 59), .mv (.t 4), none⟩,
                             ⟨(some 60), .mv (.t 10), none⟩,
                             ⟨(some 61), .iaddr 1 (.t 59) (.t 60), none⟩,
                             ⟨(some 62), .load none (.t 61), none⟩,
                             ⟨(some 63), .mv (.t 5), none⟩,
                             ⟨(some 64), .mv (.t 12), none⟩,
                             ⟨(some 65), .iaddr 1 (.t 63) (.t 64), none⟩,
                             ⟨(some 66), .load none (.t 65), none⟩,
                             ⟨(some 67), .bin .mul (.t 62) (.t 66), none⟩,
                             ⟨(some 14), .mv (.t 67), none⟩])
                           (.seq
                            (.reg none [⟨(some 68), .mv (.t 13), none⟩,
                              ⟨(some 69), .mv (.t 6), none⟩,
                              ⟨(some 70), .bin .mul (.t 68) (.t 69), none⟩,
                              ⟨(some 71), .mv (.t 14), none⟩,
                              ⟨(some 72), .bin .sub (.t 70) (.t 71), none⟩,
                              ⟨(some 15), .mv (.t 72), none⟩])
                            (.reg (some []) [⟨(some 73), .load (some 2) (.t 9), none⟩,
                              ⟨(some 74), .mv (.t 15), none⟩,
                              ⟨(some 75), .mv (.t 15), none⟩,
                              ⟨(some 76), .bin .mul (.t 74) (.t 75), none⟩,
                              ⟨(some 77), .mv (.t 14), none⟩,
                              ⟨(some 78), .mv (.t 6), none⟩,
                              ⟨(some 79), .bin .mul (.t 77) (.t 78), none⟩,
                              ⟨(some 80), .call 73 [(.t 76), (.t 79)], none⟩,
                              ⟨(some 81), .call 76 [(.t 73), (.t 80)], none⟩,
                              ⟨none, .store 2 (.t 9) (.t 81), none⟩])))))
                        (.reg none [⟨(some 82), .bin .add (.t 54) (.c (.int .i64 1)), none⟩,
                          ⟨(some 54), .mv (.t 82), none⟩])))))))))
                (.reg none [⟨(some 83), .bin .add (.t 47) (.c (.int .i64 1)), none⟩,
                  ⟨(some 47), .mv (.t 83), none⟩])))))))
          (.seq
           (.reg none [⟨(some 84), .load (some 2) (.t 9), none⟩,
             ⟨none, .store 2 (.t 2) (.t 84), none⟩,
             ⟨(some 3), .mv (.c (.int .i64 0)), none⟩])
           .ret))))))))) }
theorem f35P : prepF C Try.f35 = some f35A := by kernel_rfl

/-- slices.Contains[[]int,int] -/
def f37A : AFunc :=
{ nargs := 2, res := [.t 4], body :=
  (.seq
   (.reg none [⟨(some 4), .mv (.c (.b false)), none⟩])
   (.seq
    (.reg none [⟨(some 5), .mv (.t 0), none⟩,
      ⟨(some 6), .mv (.t 1), none⟩,
      ⟨(some 7), .call 78 [(.t 5), (.t 6)], none⟩,
      ⟨(some 8), .bin .geq (.t 7) (.c (.int .i64 0)), none⟩,
      ⟨(some 4), .mv (.t 8), none⟩])
    .ret)) }
theorem f37P : prepF C Try.f37 = some f37A := by kernel_rfl

/-- congou/congoulaw06.list -/
def f39A : AFunc :=
{ nargs := 1, res := [.t 2], body :=
  (.seq
   (.reg none [⟨(some 2), .mv (.c .nils), none⟩])
   (.seq
    (.reg none [⟨(some 3), .mv (.t 0), none⟩,
      ⟨(some 4), .mv (.t 0), none⟩,
      ⟨(some 5), .len (.t 4), none⟩,
      ⟨(some 6), .mn [(.t 5), (.c (.int .i64 6))], none⟩,
      ⟨(some 7), .slice 1 (.t 3) none (some (.t 6)) none, none⟩,
      ⟨(some 8), .call 56 [(.t 7)], none⟩,
      ⟨(some 2), .mv (.t 8), none⟩])
    .ret)) }
theorem f39P : prepF C Try.f39 = some f39A := by kernel_rfl

/-- slices.Clone[[]int,int] -/
def f56A : AFunc :=
{ nargs := 1, res := [.t 2], body :=
  (.seq
   (.reg none [⟨(some 2), .mv (.c .nils), none⟩])
   (.seq
    (.seq
     (.reg none [⟨(some 3), .mv (.t 0), none⟩,
       ⟨(some 4), .seq false (.t 3) (.c .nils), none⟩])
     (.cond (.t 4)
      (.seq
       (.reg none [⟨(some 2), .mv (.c .nils), none⟩])
       .ret)
      .skip))
    (.seq
     (.reg none [⟨(some 5), .bslice [(.int .i64 0)] 0 1 [], none⟩,
       ⟨(some 6), .mv (.t 0), none⟩,
       ⟨(some 7), .append 1 8 (.t 5) (.t 6), none⟩,
       ⟨(some 2), .mv (.t 7), none⟩])
     .ret))) }
theorem f56P : prepF C Try.f56 = some f56A := by kernel_rfl

/-- (congou/counts.table).valid -/
def f70A : AFunc :=
{ nargs := 1, res := [.t 2], body :=
  (.seq
   (.reg none [⟨(some 2), .mv (.c (.b false)), none⟩])
   (.seq
    (.seq
     (.reg none [⟨(some 8), .mv (.t 0), none⟩,
       ⟨(some 9), .len (.t 8), none⟩,
       ⟨(some 10), .bin .lss (.t 9) (.c (.int .i64 1)), none⟩,
       ⟨(some 11), .mv (.t 10), none⟩,
       ⟨(some 12), .mv (.t 0), some (11, false)⟩,
       ⟨(some 13), .len (.t 12), some (11, false)⟩,
       ⟨(some 14), .bin .gtr (.t 13) (.c (.int .i64 3)), some (11, false)⟩,
       ⟨(some 15), .pick (.t 11) (.c (.b true)) (.t 14), none⟩])
     (.cond (.t 15)
      (.seq
       (.reg none [⟨(some 2), .mv (.c (.b false)), none⟩])
       .ret)
      .skip))
    (.seq
     (.reg none [⟨(some 3), .mv (.c (.int .i64 0)), none⟩])
     (.seq
      (.seq
       (.reg none [⟨(some 16), .mv (.t 0), none⟩,
         ⟨(some 17), .len (.t 16), none⟩,
         ⟨(some 18), .mv (.c (.int .i64 0)), none⟩])
       (.block 0
        (.loop
         (.seq
          (.reg none [⟨(some 19), .bin .lss (.t 18) (.t 17), none⟩])
          (.seq
           (.cond (.t 19)
            .skip
            (.exit 0))
           (.seq
            (.block 1
             (.seq
              (.reg none [⟨(some 20), .iaddr 1 (.t 16) (.t 18), none⟩,
                ⟨(some 21), .load none (.t 20), none⟩,
                ⟨(some 5), .mv (.t 21), none⟩])
              (.seq
               (.seq
                (.reg none [⟨(some 22), .mv (.t 5), none⟩,
                  ⟨(some 23), .len (.t 22), none⟩,
                  ⟨(some 24), .bin .lss (.t 23) (.c (.int .i64 1)), none⟩,
                  ⟨(some 25), .mv (.t 24), none⟩,
                  ⟨(some 26), .mv (.t 5), some (25, false)⟩,
                  ⟨(some 27), .len (.t 26), some (25, false)⟩,
                  ⟨(some 28), .bin .gtr (.t 27) (.c (.int .i64 3)), some (25, false)⟩,
                  ⟨(some 29), .pick (.t 25) (.c (.b true)) (.t 28), none⟩,
                  ⟨(some 30), .mv (.t 29), none⟩,
                  ⟨(some 31), .mv (.t 5), some (30, false)⟩,
                  ⟨(some 32), .len (.t 31), some (30, false)⟩,
                  ⟨(some 33), .mv (.t 0), some (30, false)⟩,
                  ⟨(some 34), .iaddr 1 (.t 33) (.c (.int .i64 0)), some (30, false)⟩,
                  ⟨(some 35), .load none (.t 34), some (30, false)⟩,
                  ⟨(some 36), .len (.t 35), some (30, false)⟩,
                  ⟨(some 37), .bin .neq (.t 32) (.t 36), some (30, false)⟩,
                  ⟨(some 38), .pick (.t 30) (.c (.b true)) (.t 37), none⟩,
                  ⟨(some 39), .mv (.t 38), none⟩,
                  ⟨(some 40), .mv (.t 5), some (39, false)⟩,
                  ⟨(some 41), .call 79 [(.t 40)], some (39, false)⟩,
                  ⟨(some 42), .un .not (.t 41), some (39, false)⟩,
                  ⟨(some 43), .pick (.t 39) (.c (.b true)) (.t 42), none⟩])
                (.cond (.t 43)
                 (.seq
                  (.reg none [⟨(some 2), .mv (.c (.b false)), none⟩])
                  .ret)
                 .skip))
               (.seq
                (.reg none [⟨(some 44), .mv (.t 5), none⟩,
                  ⟨(some 45), .len (.t 44), none⟩,
                  ⟨(some 46), .mv (.c (.int .i64 0)), none⟩])
                (.block 2
                 (.loop
                  (.seq
                   (.reg none [⟨(some 47), .bin .lss (.t 46) (.t 45), none⟩])
                   (.seq
                    (.cond (.t 47)
                     .skip
                     (.exit 2))
                    (.seq
                     (.block 3
                      (.seq
                       (.reg none [⟨(some 48), .iaddr 1 (.t 44) (.t 46), none⟩,
                         ⟨(some 49), .load none (.t 48), none⟩,
                         ⟨(some 7), .mv (.t 49), none⟩])
                       (.reg none [⟨(some 50), .mv (.t 3), none⟩,
                         ⟨(some 51), .mv (.t 7), none⟩,
                         ⟨(some 52), .bin .add (.t 50) (.t 51), none⟩,
                         ⟨(some 3), .mv (.t 52), none⟩])))
                     (.reg none [⟨(some 53), .bin .add (.t 46) (.c (.int .i64 1)), none⟩,
                       ⟨(some 46), .mv (.t 53), none⟩]))))))))))
            (.reg none [⟨(some 54), .bin .add (.t 18) (.c (.int .i64 1)), none⟩,
              ⟨(some 18), .mv (.t 54), none⟩])))))))
      (.seq
       (.reg none [⟨(some 55), .mv (.t 3), none⟩,
         ⟨(some 56), .bin .leq (.t 55) (.c (.int .i64 16)), none⟩,
         ⟨(some 2), .mv (.t 56), none⟩])
       .ret))))) }
theorem f70P : prepF C Try.f70 = some f70A := by kernel_rfl

/-- (congou/counts.table).sums -/
def f71A : AFunc :=
{ nargs := 1, res := [.t 2, .t 3], body :=
  (.seq
   (.reg none [⟨(some 2), .mv (.c .nils), none⟩,
     ⟨(some 3), .mv (.c .nils), none⟩])
   (.seq
    (.reg none [⟨(some 9), .mv (.t 0), none⟩,
      ⟨(some 10), .iaddr 1 (.t 9) (.c (.int .i64 0)), none⟩,
      ⟨(some 11), .load none (.t 10), none⟩,
      ⟨(some 12), .len (.t 11), none⟩,
      ⟨(some 13), .mkslice 1 8 [(.int .i64 0)] (.t 12), none⟩,
      ⟨(some 3), .mv (.t 13), none⟩])
    (.seq
     (.seq
      (.reg none [⟨(some 14), .mv (.t 0), none⟩,
        ⟨(some 15), .len (.t 14), none⟩,
        ⟨(some 16), .mv (.c (.int .i64 0)), none⟩])
      (.block 0
       (.loop
        (.seq
         (.reg none [⟨(some 17), .bin .lss (.t 16) (.t 15), none⟩])
         (.seq
          (.cond (.t 17)
           .skip
           (.exit 0))
          (.seq
           (.block 1
            (.seq
             (.reg none [⟨(some 18), .iaddr 1 (.t 14) (.t 16), none⟩,
               ⟨(some 19), .load none (.t 18), none⟩,
               ⟨(some 5), .mv (.t 19), none⟩])
             (.seq
              (.reg none [⟨(some 6), .mv (.c (.int .i64 0)), none⟩])
              (.seq
               (.seq
                (.reg none [⟨(some 20), .mv (.t 5), none⟩,
                  ⟨(some 21), .len (.t 20), none⟩,
                  ⟨(some 22), .mv (.c (.int .i64 0)), none⟩])
                (.block 2
                 (.loop
                  (.seq
                   (.reg none [⟨(some 23), .bin .lss (.t 22) (.t 21), none⟩])
                   (.seq
                    (.cond (.t 23)
                     .skip
                     (.exit 2))
                    (.seq
                     (.block 3
                      (.seq
                       (.reg none [⟨(some 24), .mv (.t 22), none⟩,
                         ⟨(some 25), .iaddr 1 (.t 20) (.t 22), none⟩,
                         ⟨(some 26), .load none (.t 25), none⟩,
                         ⟨(some 7), .mv (.t 24), none⟩,
                         ⟨(some 8), .mv (.t 26), none⟩])
                       (.seq
                        (.reg none [⟨(some 27), .mv (.t 6), none⟩,
                          ⟨(some 28), .mv (.t 8), none⟩,
                          ⟨(some 29), .bin .add (.t 27) (.t 28), none⟩,
                          ⟨(some 6), .mv (.t 29), none⟩])
                        (.reg none [⟨(some 30), .mv (.t 3), none⟩,
                          ⟨(some 31), .mv (.t 7), none⟩,
                          ⟨(some 32), .iaddr 1 (.t 30) (.t 31), none⟩,
                          ⟨(some 33), .load none (.t 32), none⟩,
                          ⟨(some 34), .mv (.t 8), none⟩,
                          ⟨(some 35), .bin .add (.t 33) (.t 34), none⟩,
                          ⟨(some 36), .iaddr 1 (.t 30) (.t 31), none⟩,
                          ⟨none, .store 1 (.t 36) (.t 35), none⟩]))))
                     (.reg none [⟨(some 37), .bin .add (.t 22) (.c (.int .i64 1)), none⟩,
                       ⟨(some 22), .mv (.t 37), none⟩])))))))
               (.reg none [⟨(some 38), .mv (.t 2), none⟩,
                 ⟨(some 39), .mv (.t 6), none⟩,
                 ⟨(some 40), .bslice [(.int .i64 0)] 1 1 [(0, (.t 39))], none⟩,
                 ⟨(some 41), .append 1 8 (.t 38) (.t 40), none⟩,
                 ⟨(some 2), .mv (.t 41), none⟩])))))
           (.reg none [⟨(some 42), .bin .add (.t 16) (.c (.int .i64 1)), none⟩,
             ⟨(some 16), .mv (.t 42), none⟩])))))))
     (.seq
      (.reg none [⟨(some 43), .mv (.t 2), none⟩,
        ⟨(some 44), .mv (.t 3), none⟩,
        ⟨(some 2), .mv (.t 43), none⟩,
        ⟨(some 3), .mv (.t 44), none⟩])
      .ret)))) }
theorem f71P : prepF C Try.f71 = some f71A := by kernel_rfl

/-- congou/counts.frac -/
def f73A : AFunc :=
{ nargs := 2, res := [.c 4 (some 2)], body :=
  (.seq
   (.reg none [⟨(some 4), .alloc [(.int .i64 0), (.int .i64 0)], none⟩])
   (.seq
    (.reg none [⟨(some 6), .mv (.t 0), none⟩,
      ⟨(some 7), .mv (.t 1), none⟩,
      ⟨(some 8), .call 99 [(.t 6), (.t 7)], none⟩,
      ⟨(some 5), .mv (.t 8), none⟩])
    (.seq
     (.reg (some []) [⟨(some 9), .mv (.t 0), none⟩,
       ⟨(some 10), .mv (.t 5), none⟩,
       ⟨(some 11), .bin .quo (.t 9) (.t 10), none⟩,
       ⟨(some 12), .mv (.t 1), none⟩,
       ⟨(some 13), .mv (.t 5), none⟩,
       ⟨(some 14), .bin .quo (.t 12) (.t 13), none⟩,
       ⟨(some 15), .build [(.int .i64 0), (.int .i64 0)] [(0, 1, (.t 11)), (1, 1, (.t 14))], none⟩,
       ⟨none, .store 2 (.t 4) (.t 15), none⟩])
     .ret))) }
theorem f73P : prepF C Try.f73 = some f73A := by kernel_rfl

/-- slices.Min[[]int,int] -/
def f75A : AFunc :=
{ nargs := 1, res := [.t 2], body :=
  (.seq
   (.reg none [⟨(some 2), .mv (.c (.int .i64 0)), none⟩])
   (.seq
    (.seq
     (.reg none [⟨(some 5), .mv (.t 0), none⟩,
       ⟨(some 6), .len (.t 5), none⟩,
       ⟨(some 7), .bin .lss (.t 6) (.c (.int .i64 1)), none⟩])
     (.cond (.t 7)
      (.reg none [⟨(some 8), .bad, none⟩,
        ⟨none, .bad, none⟩])
      .skip))
    (.seq
     (.reg none [⟨(some 9), .mv (.t 0), none⟩,
       ⟨(some 10), .iaddr 1 (.t 9) (.c (.int .i64 0)), none⟩,
       ⟨(some 11), .load none (.t 10), none⟩,
       ⟨(some 3), .mv (.t 11), none⟩])
     (.seq
      (.seq
       (.reg none [⟨(some 4), .mv (.c (.int .i64 1)), none⟩])
       (.block 0
        (.loop
         (.seq
          (.seq
           (.reg none [⟨(some 12), .mv (.t 4), none⟩,
             ⟨(some 13), .mv (.t 0), none⟩,
             ⟨(some 14), .len (.t 13), none⟩,
             ⟨(some 15), .bin .lss (.t 12) (.t 14), none⟩])
           (.cond (.t 15)
            .skip
            (.exit 0)))
          (.seq
           (.block 1
            (.reg none [⟨(some 18), .mv (.t 3), none⟩,
              ⟨(some 19), .mv (.t 0), none⟩,
              ⟨(some 20), .mv (.t 4), none⟩,
              ⟨(some 21), .iaddr 1 (.t 19) (.t 20), none⟩,
              ⟨(some 22), .load none (.t 21), none⟩,
              ⟨(some 23), .mn [(.t 18), (.t 22)], none⟩,
              ⟨(some 3), .mv (.t 23), none⟩]))
           (.reg none [⟨(some 16), .mv (.t 4), none⟩,
             ⟨(some 17), .bin .add (.t 16) (.c (.int .i64 1)), none⟩,
             ⟨(some 4), .mv (.t 17), none⟩]))))))
      (.seq
       (.reg none [⟨(some 24), .mv (.t 3), none⟩,
         ⟨(some 2), .mv (.t 24), none⟩])
       .ret))))) }
theorem f75P : prepF C Try.f75 = some f75A := by kernel_rfl

/-- congou/counts.plus -/
def f76A : AFunc :=
{ nargs := 2, res := [.c 4 (some 2)], body :=
  (.seq
   (.reg none [⟨(some 2), .box (.t 0), none⟩,
     ⟨(some 3), .box (.t 1), none⟩,
     ⟨(some 4), .alloc [(.int .i64 0), (.int .i64 0)], none⟩])
   (.seq
    (.reg none [⟨(some 6), .faddr 1 (.t 2), none⟩,
      ⟨(some 7), .load none (.t 6), none⟩,
      ⟨(some 8), .faddr 1 (.t 3), none⟩,
      ⟨(some 9), .load none (.t 8), none⟩,
      ⟨(some 10), .call 99 [(.t 7), (.t 9)], none⟩,
      ⟨(some 5), .mv (.t 10), none⟩])
    (.seq
     (.reg (some []) [⟨(some 11), .faddr 0 (.t 2), none⟩,
       ⟨(some 12), .load none (.t 11), none⟩,
       ⟨(some 13), .faddr 1 (.t 3), none⟩,
       ⟨(some 14), .load none (.t 13), none⟩,
       ⟨(some 15), .mv (.t 5), none⟩,
       ⟨(some 16), .bin .quo (.t 14) (.t 15), none⟩,
       ⟨(some 17), .bin .mul (.t 12) (.t 16), none⟩,
       ⟨(some 18), .faddr 0 (.t 3), none⟩,
       ⟨(some 19), .load none (.t 18), none⟩,
       ⟨(some 20), .faddr 1 (.t 2), none⟩,
       ⟨(some 21), .load none (.t 20), none⟩,
       ⟨(some 22), .mv (.t 5), none⟩,
       ⟨(some 23), .bin .quo (.t 21) (.t 22), none⟩,
       ⟨(some 24), .bin .mul (.t 19) (.t 23), none⟩,
       ⟨(some 25), .bin .add (.t 17) (.t 24), none⟩,
       ⟨(some 26), .faddr 1 (.t 2), none⟩,
       ⟨(some 27), .load none (.t 26), none⟩,
       ⟨(some 28), .mv (.t 5), none⟩,
       ⟨(some 29), .bin .quo (.t 27) (.t 28), none⟩,
       ⟨(some 30), .faddr 1 (.t 3), none⟩,
       ⟨(some 31), .load none (.t 30), none⟩,
       ⟨(some 32), .bin .mul (.t 29) (.t 31), none⟩,
       ⟨(some 33), .call 73 [(.t 25), (.t 32)], none⟩,
       ⟨none, .store 2 (.t 4) (.t 33), none⟩])
     .ret))) }
theorem f76P : prepF C Try.f76 = some f76A := by kernel_rfl

/-- slices.Index[[]int,int] -/
def f78A : AFunc :=
{ nargs := 2, res := [.t 4], body :=
  (.seq
   (.reg none [⟨(some 4), .mv (.c (.int .i64 0)), none⟩])
   (.seq
    (.seq
     (.reg none [⟨(some 6), .mv (.t 0), none⟩,
       ⟨(some 7), .len (.t 6), none⟩,
       ⟨(some 8), .mv (.c (.int .i64 0)), none⟩])
     (.block 0
      (.loop
       (.seq
        (.reg none [⟨(some 9), .bin .lss (.t 8) (.t 7), none⟩])
        (.seq
         (.cond (.t 9)
          .skip
          (.exit 0))
         (.seq
          (.block 1
           (.seq
            (.reg none [⟨(some 10), .mv (.t 8), none⟩,
              ⟨(some 5), .mv (.t 10), none⟩])
            (.seq
             (.reg none [⟨(some 11), .mv (.t 1), none⟩,
               ⟨(some 12), .mv (.t 0), none⟩,
               ⟨(some 13), .mv (.t 5), none⟩,
               ⟨(some 14), .iaddr 1 (.t 12) (.t 13), none⟩,
               ⟨(some 15), .load none (.t 14), none⟩,
               ⟨(some 16), .bin .eql (.t 11) (.t 15), none⟩])
             (.cond (.t 16)
              (.seq
               (.reg none [⟨(some 17), .mv (.t 5), none⟩,
                 ⟨(some 4), .mv (.t 17), none⟩])
               .ret)
              .skip))))
          (.reg none [⟨(some 18), .bin .add (.t 8) (.c (.int .i64 1)), none⟩,
            ⟨(some 8), .mv (.t 18), none⟩])))))))
    (.seq
     (.reg none [⟨(some 4), .mv (.c (.int .i64 (-1))), none⟩])
     .ret))) }
theorem f78P : prepF C Try.f78 = some f78A := by kernel_rfl

/-- congou/counts.isSums -/
def f79A : AFunc :=
{ nargs := 1, res := [.t 2], body :=
  (.seq
   (.reg none [⟨(some 2), .mv (.c (.b false)), none⟩])
   (.seq
    (.reg none [⟨(some 3), .mv (.c (.int .i64 0)), none⟩])
    (.seq
     (.seq
      (.reg none [⟨(some 6), .mv (.t 0), none⟩,
        ⟨(some 7), .len (.t 6), none⟩,
        ⟨(some 8), .mv (.c (.int .i64 0)), none⟩])
      (.block 0
       (.loop
        (.seq
         (.reg none [⟨(some 9), .bin .lss (.t 8) (.t 7), none⟩])
         (.seq
          (.cond (.t 9)
           .skip
           (.exit 0))
          (.seq
           (.block 1
            (.seq
             (.reg none [⟨(some 10), .iaddr 1 (.t 6) (.t 8), none⟩,
               ⟨(some 11), .load none (.t 10), none⟩,
               ⟨(some 5), .mv (.t 11), none⟩])
             (.seq
              (.seq
               (.reg none [⟨(some 12), .mv (.t 5), none⟩,
                 ⟨(some 13), .bin .lss (.t 12) (.c (.int .i64 0)), none⟩,
                 ⟨(some 14), .mv (.t 13), none⟩,
                 ⟨(some 15), .mv (.t 5), some (14, false)⟩,
                 ⟨(some 16), .bin .gtr (.t 15) (.c (.int .i64 16)), some (14, false)⟩,
                 ⟨(some 17), .pick (.t 14) (.c (.b true)) (.t 16), none⟩])
               (.cond (.t 17)
                (.seq
                 (.reg none [⟨(some 2), .mv (.c (.b false)), none⟩])
                 .ret)
                .skip))
              (.reg none [⟨(some 18), .mv (.t 3), none⟩,
                ⟨(some 19), .mv (.t 5), none⟩,
                ⟨(some 20), .bin .add (.t 18) (.t 19), none⟩,
                ⟨(some 3), .mv (.t 20), none⟩]))))
           (.reg none [⟨(some 21), .bin .add (.t 8) (.c (.int .i64 1)), none⟩,
             ⟨(some 8), .mv (.t 21), none⟩])))))))
     (.seq
      (.reg none [⟨(some 22), .mv (.t 3), none⟩,
        ⟨(some 23), .bin .leq (.t 22) (.c (.int .i64 16)), none⟩,
        ⟨(some 2), .mv (.t 23), none⟩])
      .ret)))) }
theorem f79P : prepF C Try.f79 = some f79A := by kernel_rfl

/-- congou/counts.gcd -/
def f99A : AFunc :=
{ nargs := 2, res := [.t 4], body :=
  (.seq
   (.reg none [⟨(some 4), .mv (.c (.int .i64 0)), none⟩])
   (.seq
    (.block 0
     (.loop
      (.seq
       (.seq
        (.reg none [⟨(some 5), .mv (.t 1), none⟩,
          ⟨(some 6), .bin .neq (.t 5) (.c (.int .i64 0)), none⟩])
        (.cond (.t 6)
         .skip
         (.exit 0)))
       (.block 1
        (.reg (some []) [⟨(some 7), .mv (.t 1), none⟩,
          ⟨(some 8), .mv (.t 0), none⟩,
          ⟨(some 9), .mv (.t 1), none⟩,
          ⟨(some 10), .bin .rem (.t 8) (.t 9), none⟩,
          ⟨(some 0), .mv (.t 7), none⟩,
          ⟨(some 1), .mv (.t 10), none⟩])))))
    (.seq
     (.reg none [⟨(some 11), .mv (.t 0), none⟩,
       ⟨(some 12), .mv (.t 0), none⟩,
       ⟨(some 13), .un .neg (.t 12), none⟩,
       ⟨(some 14), .mx [(.t 11), (.t 13)], none⟩,
       ⟨(some 4), .mv (.t 14), none⟩])
     .ret))) }
theorem f99P : prepF C Try.f99 = some f99A := by kernel_rfl

end Go.Proofs.Ytflekaacffdakaa
