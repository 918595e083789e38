/- The abstract forms of the functions that are needed, each checked against the translation. No condition. -/
import Derived.Test.YtflekaacffdakaaAm1
import Derived.Test.YtflekaacffdakaaProg
namespace Go.Proofs.Ytflekaacffdakaa
open Go Go.AM Go.Proofs

/-- the seat's program; the types whose comparison is taken; the functions that may write to what is older -/
def kd : Nat → Kd := fun f => if [68, 80, 100].contains f then .wrt else if [23].contains f then .closed else .ro
noncomputable def C : Cfg := { P := Try.prog, eqT := fun t => if t == 37 then some 2 else if t == 88 then some 3 else none, kd := kd }
/-- congou/congoulaw06.CountsAll -/
def f14A : AFunc :=
{ nargs := 1, res := [.t 2], body :=
  (.seq
   (.reg none [⟨(some 2), .mv (.c (.b false)), none⟩])
   (.seq
    (.reg none [⟨(some 25), .mv (.t 0), none⟩,
      ⟨(some 26), .call 20 [(.t 25)], none⟩,
      ⟨(some 27), .call 42 [(.t 26)], none⟩,
      ⟨(some 24), .mv (.t 27), none⟩,
      ⟨(some 28), .extr (.t 24) 0, none⟩,
      ⟨(some 29), .extr (.t 24) 1, none⟩,
      ⟨(some 3), .mv (.t 28), none⟩,
      ⟨(some 4), .mv (.t 29), none⟩])
    (.seq
     (.seq
      (.reg none [⟨(some 30), .mv (.t 4), none⟩,
        ⟨(some 31), .bin .neq (.t 30) (.c (.int .i64 0)), none⟩,
        ⟨(some 32), .mv (.t 31), none⟩,
        ⟨(some 33), .mv (.t 0), some (32, false)⟩,
        ⟨(some 34), .call 22 [(.t 33)], some (32, false)⟩,
        ⟨(some 35), .un .not (.t 34), some (32, false)⟩,
        ⟨(some 36), .pick (.t 32) (.c (.b true)) (.t 35), none⟩])
      (.cond (.t 36)
       (.seq
        (.reg none [⟨(some 37), .mv (.t 4), none⟩,
          ⟨(some 38), .bin .eql (.t 37) (.c (.int .i64 2)), none⟩,
          ⟨(some 39), .mv (.t 38), none⟩,
          ⟨(some 40), .call 23 [], some (39, true)⟩,
          ⟨(some 41), .pick (.t 39) (.t 40) (.c (.b false)), none⟩,
          ⟨(some 2), .mv (.t 41), none⟩])
        .ret)
       .skip))
     (.seq
      (.reg none [⟨(some 43), .mv (.t 0), none⟩,
        ⟨(some 44), .call 20 [(.t 43)], none⟩,
        ⟨(some 45), .call 49 [(.t 44)], none⟩,
        ⟨(some 42), .mv (.t 45), none⟩,
        ⟨(some 46), .extr (.t 42) 0, none⟩,
        ⟨(some 47), .extr (.t 42) 1, none⟩,
        ⟨(some 5), .alloc [(.int .i64 0), (.int .i64 0)], none⟩,
        ⟨none, .store 2 (.t 5) (.t 46), none⟩,
        ⟨(some 6), .mv (.t 47), none⟩])
      (.seq
       (.reg none [⟨(some 49), .mv (.t 0), none⟩,
         ⟨(some 50), .call 20 [(.t 49)], none⟩,
         ⟨(some 51), .call 50 [(.t 50)], none⟩,
         ⟨(some 48), .mv (.t 51), none⟩,
         ⟨(some 52), .extr (.t 48) 0, none⟩,
         ⟨(some 53), .extr (.t 48) 1, none⟩,
         ⟨(some 7), .alloc [(.int .i64 0), (.int .i64 0)], none⟩,
         ⟨none, .store 2 (.t 7) (.t 52), none⟩,
         ⟨(some 8), .mv (.t 53), none⟩])
       (.seq
        (.seq
         (.reg none [⟨(some 54), .mv (.t 6), none⟩,
           ⟨(some 55), .bin .neq (.t 54) (.c (.int .i64 0)), none⟩,
           ⟨(some 56), .mv (.t 55), none⟩,
           ⟨(some 57), .mv (.t 8), some (56, false)⟩,
           ⟨(some 58), .bin .neq (.t 57) (.c (.int .i64 0)), some (56, false)⟩,
           ⟨(some 59), .pick (.t 56) (.c (.b true)) (.t 58), none⟩,
           ⟨(some 60), .mv (.t 59), none⟩,
           ⟨(some 61), .load (some 2) (.t 5), some (60, false)⟩,
           ⟨(some 62), .call 53 [(.t 61)], some (60, false)⟩,
           ⟨(some 63), .un .not (.t 62), some (60, false)⟩,
           ⟨(some 64), .pick (.t 60) (.c (.b true)) (.t 63), none⟩,
           ⟨(some 65), .mv (.t 64), none⟩,
           ⟨(some 66), .load (some 2) (.t 7), some (65, false)⟩,
           ⟨(some 67), .call 53 [(.t 66)], some (65, false)⟩,
           ⟨(some 68), .un .not (.t 67), some (65, false)⟩,
           ⟨(some 69), .pick (.t 65) (.c (.b true)) (.t 68), none⟩,
           ⟨(some 70), .mv (.t 69), none⟩,
           ⟨(some 71), .faddr 0 (.t 5), some (70, false)⟩,
           ⟨(some 72), .load none (.t 71), some (70, false)⟩,
           ⟨(some 73), .bin .lss (.t 72) (.c (.int .i64 1)), some (70, false)⟩,
           ⟨(some 74), .pick (.t 70) (.c (.b true)) (.t 73), none⟩,
           ⟨(some 75), .mv (.t 74), none⟩,
           ⟨(some 76), .mv (.t 3), some (75, false)⟩,
           ⟨(some 77), .len (.t 76), some (75, false)⟩,
           ⟨(some 78), .bin .gtr (.t 77) (.c (.int .i64 100000)), some (75, false)⟩,
           ⟨(some 79), .pick (.t 75) (.c (.b true)) (.t 78), none⟩])
         (.cond (.t 79)
          (.seq
           (.reg none [⟨(some 2), .mv (.c (.b false)), none⟩])
           .ret)
          .skip))
        (.seq
         (.reg none [⟨(some 81), .mv (.t 0), none⟩,
           ⟨(some 82), .call 24 [(.t 81)], none⟩,
           ⟨(some 80), .mv (.t 82), none⟩,
           ⟨(some 83), .extr (.t 80) 0, none⟩,
           ⟨(some 84), .extr (.t 80) 1, none⟩,
           ⟨(some 9), .mv (.t 83), none⟩,
           ⟨(some 10), .mv (.t 84), none⟩])
         (.seq
          (.reg none [⟨(some 11), .mv (.c (.int .i64 1)), none⟩,
            ⟨(some 12), .mv (.c (.int .i64 0)), none⟩])
          (.seq
           (.seq
            (.reg none [⟨(some 85), .mv (.t 10), none⟩,
              ⟨(some 86), .len (.t 85), none⟩,
              ⟨(some 87), .mv (.c (.int .i64 0)), none⟩])
            (.block 0
             (.loop
              (.seq
               (.reg none [⟨(some 88), .bin .lss (.t 87) (.t 86), none⟩])
               (.seq
                (.cond (.t 88)
                 .skip
                 (.exit 0))
                (.seq
                 (.block 1
                  (.seq
                   (.reg none [⟨(some 89), .iaddr 1 (.t 85) (.t 87), none⟩,
                     ⟨(some 90), .load none (.t 89), none⟩,
                     ⟨(some 14), .mv (.t 90), none⟩])
                   (.seq
                    (.reg none [⟨(some 91), .mv (.t 14), none⟩,
                      ⟨(some 92), .mv (.c (.int .i64 0)), none⟩])
                    (.block 2
                     (.loop
                      (.seq
                       (.reg none [⟨(some 93), .bin .lss (.t 92) (.t 91), none⟩])
                       (.seq
                        (.cond (.t 93)
                         .skip
                         (.exit 2))
                        (.seq
                         (.block 3
                          (.seq
                           (.reg none [⟨(some 94), .mv (.t 92), none⟩,
                             ⟨(some 15), .mv (.t 94), none⟩])
                           (.seq
                            (.reg none [⟨(some 95), .mv (.t 12), none⟩,
                              ⟨(some 96), .bin .add (.t 95) (.c (.int .i64 1)), none⟩,
                              ⟨(some 12), .mv (.t 96), none⟩])
                            (.reg none [⟨(some 97), .mv (.t 11), none⟩,
                              ⟨(some 98), .mv (.t 12), none⟩,
                              ⟨(some 99), .bin .mul (.t 97) (.t 98), none⟩,
                              ⟨(some 100), .mv (.t 15), none⟩,
                              ⟨(some 101), .bin .add (.t 100) (.c (.int .i64 1)), none⟩,
                              ⟨(some 102), .bin .quo (.t 99) (.t 101), none⟩,
                              ⟨(some 11), .mv (.t 102), none⟩]))))
                         (.reg none [⟨(some 103), .bin .add (.t 92) (.c (.int .i64 1)), none⟩,
                           ⟨(some 92), .mv (.t 103), none⟩])))))))))
                 (.reg none [⟨(some 104), .bin .add (.t 87) (.c (.int .i64 1)), none⟩,
                   ⟨(some 87), .mv (.t 104), none⟩])))))))
           (.seq
            (.reg none [⟨(some 16), .mv (.c (.int .i64 0)), none⟩,
              ⟨(some 17), .mv (.c (.int .i64 0)), none⟩,
              ⟨(some 18), .mv (.c (.b true)), none⟩])
            (.seq
             (.seq
              (.reg none [⟨(some 105), .mv (.t 3), none⟩,
                ⟨(some 106), .len (.t 105), none⟩,
                ⟨(some 107), .mv (.c (.int .i64 0)), none⟩])
              (.block 4
               (.loop
                (.seq
                 (.reg none [⟨(some 108), .bin .lss (.t 107) (.t 106), none⟩])
                 (.seq
                  (.cond (.t 108)
                   .skip
                   (.exit 4))
                  (.seq
                   (.block 5
                    (.seq
                     (.reg none [⟨(some 109), .iaddr 1 (.t 105) (.t 107), none⟩,
                       ⟨(some 110), .load none (.t 109), none⟩,
                       ⟨(some 20), .mv (.t 110), none⟩])
                     (.seq
                      (.reg none [⟨(some 112), .mv (.t 20), none⟩,
                        ⟨(some 113), .call 20 [(.t 112)], none⟩,
                        ⟨(some 114), .call 49 [(.t 113)], none⟩,
                        ⟨(some 111), .mv (.t 114), none⟩,
                        ⟨(some 115), .extr (.t 111) 0, none⟩,
                        ⟨(some 116), .extr (.t 111) 1, none⟩,
                        ⟨(some 21), .alloc [(.int .i64 0), (.int .i64 0)], none⟩,
                        ⟨none, .store 2 (.t 21) (.t 115), none⟩,
                        ⟨(some 22), .mv (.t 116), none⟩])
                      (.seq
                       (.seq
                        (.reg none [⟨(some 117), .mv (.t 22), none⟩,
                          ⟨(some 118), .bin .neq (.t 117) (.c (.int .i64 0)), none⟩,
                          ⟨(some 119), .mv (.t 118), none⟩,
                          ⟨(some 120), .load (some 2) (.t 21), some (119, false)⟩,
                          ⟨(some 121), .call 53 [(.t 120)], some (119, false)⟩,
                          ⟨(some 122), .un .not (.t 121), some (119, false)⟩,
                          ⟨(some 123), .pick (.t 119) (.c (.b true)) (.t 122), none⟩,
                          ⟨(some 124), .mv (.t 123), none⟩,
                          ⟨(some 125), .mv (.t 11), some (124, false)⟩,
                          ⟨(some 126), .faddr 1 (.t 21), some (124, false)⟩,
                          ⟨(some 127), .load none (.t 126), some (124, false)⟩,
                          ⟨(some 128), .bin .rem (.t 125) (.t 127), some (124, false)⟩,
                          ⟨(some 129), .bin .neq (.t 128) (.c (.int .i64 0)), some (124, false)⟩,
                          ⟨(some 130), .pick (.t 124) (.c (.b true)) (.t 129), none⟩])
                        (.cond (.t 130)
                         (.seq
                          (.reg none [⟨(some 2), .mv (.c (.b false)), none⟩])
                          .ret)
                         .skip))
                       (.seq
                        (.reg (some []) [⟨(some 131), .faddr 0 (.t 21), none⟩,
                          ⟨(some 132), .load none (.t 131), none⟩,
                          ⟨(some 133), .mv (.t 11), none⟩,
                          ⟨(some 134), .faddr 1 (.t 21), none⟩,
                          ⟨(some 135), .load none (.t 134), none⟩,
                          ⟨(some 136), .bin .quo (.t 133) (.t 135), none⟩,
                          ⟨(some 137), .bin .mul (.t 132) (.t 136), none⟩,
                          ⟨(some 23), .mv (.t 137), none⟩])
                        (.seq
                         (.reg none [⟨(some 138), .mv (.t 16), none⟩,
                           ⟨(some 139), .mv (.t 23), none⟩,
                           ⟨(some 140), .bin .add (.t 138) (.t 139), none⟩,
                           ⟨(some 16), .mv (.t 140), none⟩])
                         (.seq
                          (.reg none [⟨(some 141), .load (some 2) (.t 5), none⟩,
                            ⟨(some 142), .load (some 2) (.t 21), none⟩,
                            ⟨(some 143), .call 54 [(.t 141), (.t 142)], none⟩])
                          (.cond (.t 143)
                           (.reg none [⟨(some 18), .mv (.c (.b false)), none⟩])
                           (.reg none [⟨(some 144), .mv (.t 17), none⟩,
                             ⟨(some 145), .mv (.t 23), none⟩,
                             ⟨(some 146), .bin .add (.t 144) (.t 145), none⟩,
                             ⟨(some 17), .mv (.t 146), none⟩])))))))))
                   (.reg none [⟨(some 147), .bin .add (.t 107) (.c (.int .i64 1)), none⟩,
                     ⟨(some 107), .mv (.t 147), none⟩])))))))
             (.seq
              (.reg (some []) [⟨(some 148), .mv (.t 16), none⟩,
                ⟨(some 149), .mv (.t 11), none⟩,
                ⟨(some 150), .bin .eql (.t 148) (.t 149), none⟩,
                ⟨(some 151), .mv (.t 150), none⟩,
                ⟨(some 152), .load (some 2) (.t 7), some (151, true)⟩,
                ⟨(some 153), .mv (.t 17), some (151, true)⟩,
                ⟨(some 154), .mv (.t 11), some (151, true)⟩,
                ⟨(some 155), .call 55 [(.t 153), (.t 154)], some (151, true)⟩,
                ⟨(some 156), .aeq false 2 (.t 152) (.t 155), some (151, true)⟩,
                ⟨(some 157), .pick (.t 151) (.t 156) (.c (.b false)), none⟩,
                ⟨(some 158), .mv (.t 157), none⟩,
                ⟨(some 159), .mv (.t 18), some (158, true)⟩,
                ⟨(some 160), .un .not (.t 159), some (158, true)⟩,
                ⟨(some 161), .mv (.t 160), some (158, true)⟩,
                ⟨(some 162), .load (some 2) (.t 7), some (161, false)⟩,
                ⟨(some 163), .build [(.int .i64 0), (.int .i64 0)] [(0, 1, (.c (.int .i64 1))), (1, 1, (.c (.int .i64 1)))], some (161, false)⟩,
                ⟨(some 164), .aeq false 2 (.t 162) (.t 163), some (161, false)⟩,
                ⟨(some 165), .pick (.t 161) (.c (.b true)) (.t 164), some (158, true)⟩,
                ⟨(some 166), .pick (.t 158) (.t 165) (.c (.b false)), none⟩,
                ⟨(some 167), .mv (.t 166), none⟩,
                ⟨(some 168), .load (some 2) (.t 7), some (167, true)⟩,
                ⟨(some 169), .load (some 2) (.t 5), some (167, true)⟩,
                ⟨(some 170), .call 54 [(.t 168), (.t 169)], some (167, true)⟩,
                ⟨(some 171), .un .not (.t 170), some (167, true)⟩,
                ⟨(some 172), .pick (.t 167) (.t 171) (.c (.b false)), none⟩,
                ⟨(some 173), .mv (.t 172), none⟩,
                ⟨(some 174), .call 23 [], some (173, true)⟩,
                ⟨(some 175), .pick (.t 173) (.t 174) (.c (.b false)), none⟩,
                ⟨(some 2), .mv (.t 175), none⟩])
              .ret)))))))))))) }
theorem f14P : prepF C Try.f14 = some f14A := by kernel_rfl

/-- congou/counts.Sums -/
def f19A : AFunc :=
{ nargs := 1, res := [.t 2, .t 3, .t 4], body :=
  (.seq
   (.reg none [⟨(some 2), .mv (.c .nils), none⟩,
     ⟨(some 3), .mv (.c .nils), none⟩,
     ⟨(some 4), .mv (.c (.int .i64 0)), none⟩])
   (.seq
    (.seq
     (.reg none [⟨(some 5), .mv (.t 0), none⟩,
       ⟨(some 6), .call 70 [(.t 5)], none⟩,
       ⟨(some 7), .un .not (.t 6), none⟩])
     (.cond (.t 7)
      (.seq
       (.reg none [⟨(some 2), .mv (.c .nils), none⟩,
         ⟨(some 3), .mv (.c .nils), none⟩,
         ⟨(some 4), .mv (.c (.int .i64 2)), none⟩])
       .ret)
      .skip))
    (.seq
     (.reg none [⟨(some 9), .mv (.t 0), none⟩,
       ⟨(some 10), .call 71 [(.t 9)], none⟩,
       ⟨(some 8), .mv (.t 10), none⟩,
       ⟨(some 11), .extr (.t 8) 0, none⟩,
       ⟨(some 12), .extr (.t 8) 1, none⟩,
       ⟨(some 2), .mv (.t 11), none⟩,
       ⟨(some 3), .mv (.t 12), none⟩])
     (.seq
      (.reg none [⟨(some 13), .mv (.t 2), none⟩,
        ⟨(some 14), .mv (.t 3), none⟩,
        ⟨(some 2), .mv (.t 13), none⟩,
        ⟨(some 3), .mv (.t 14), none⟩,
        ⟨(some 4), .mv (.c (.int .i64 0)), none⟩])
      .ret)))) }
theorem f19P : prepF C Try.f19 = some f19A := by kernel_rfl

/-- congou/congoulaw06.table -/
def f20A : AFunc :=
{ nargs := 1, res := [.t 2], body :=
  (.seq
   (.reg none [⟨(some 2), .mv (.c .nils), none⟩])
   (.seq
    (.reg none [⟨(some 3), .mv (.c .nils), none⟩])
    (.seq
     (.seq
      (.reg none [⟨(some 6), .mv (.t 0), none⟩,
        ⟨(some 7), .len (.t 6), none⟩,
        ⟨(some 8), .mv (.c (.int .i64 0)), none⟩])
      (.block 0
       (.loop
        (.seq
         (.reg none [⟨(some 9), .bin .lss (.t 8) (.t 7), none⟩])
         (.seq
          (.cond (.t 9)
           .skip
           (.exit 0))
          (.seq
           (.block 1
            (.seq
             (.reg none [⟨(some 10), .mv (.t 8), none⟩,
               ⟨(some 11), .iaddr 1 (.t 6) (.t 8), none⟩,
               ⟨(some 12), .load none (.t 11), none⟩,
               ⟨(some 4), .mv (.t 10), none⟩,
               ⟨(some 5), .mv (.t 12), none⟩])
             (.seq
              (.reg none [⟨(some 13), .mv (.t 4), none⟩,
                ⟨(some 14), .bin .lss (.t 13) (.c (.int .i64 6)), none⟩])
              (.cond (.t 14)
               (.reg none [⟨(some 15), .mv (.t 3), none⟩,
                 ⟨(some 16), .mv (.t 5), none⟩,
                 ⟨(some 17), .call 39 [(.t 16)], none⟩,
                 ⟨(some 18), .bslice [.nils] 1 1 [(0, (.t 17))], none⟩,
                 ⟨(some 19), .append 1 24 (.t 15) (.t 18), none⟩,
                 ⟨(some 3), .mv (.t 19), none⟩])
               .skip))))
           (.reg none [⟨(some 20), .bin .add (.t 8) (.c (.int .i64 1)), none⟩,
             ⟨(some 8), .mv (.t 20), none⟩])))))))
     (.seq
      (.reg none [⟨(some 21), .mv (.t 3), none⟩,
        ⟨(some 2), .mv (.t 21), none⟩])
      .ret)))) }
theorem f20P : prepF C Try.f20 = some f20A := by kernel_rfl

/-- congou/congouref06.Table -/
def f22A : AFunc :=
{ nargs := 1, res := [.t 2], body :=
  (.seq
   (.reg none [⟨(some 2), .mv (.c (.b false)), none⟩])
   (.seq
    (.reg none [⟨(some 3), .mv (.c (.int .i64 0)), none⟩])
    (.seq
     (.seq
      (.reg none [⟨(some 8), .mv (.t 0), none⟩,
        ⟨(some 9), .len (.t 8), none⟩,
        ⟨(some 10), .mv (.c (.int .i64 0)), none⟩])
      (.block 0
       (.loop
        (.seq
         (.reg none [⟨(some 11), .bin .lss (.t 10) (.t 9), none⟩])
         (.seq
          (.cond (.t 11)
           .skip
           (.exit 0))
          (.seq
           (.block 1
            (.seq
             (.reg none [⟨(some 12), .iaddr 1 (.t 8) (.t 10), none⟩,
               ⟨(some 13), .load none (.t 12), none⟩,
               ⟨(some 5), .mv (.t 13), none⟩])
             (.seq
              (.seq
               (.reg none [⟨(some 14), .mv (.t 5), none⟩,
                 ⟨(some 15), .len (.t 14), none⟩,
                 ⟨(some 16), .mv (.t 0), none⟩,
                 ⟨(some 17), .iaddr 1 (.t 16) (.c (.int .i64 0)), none⟩,
                 ⟨(some 18), .load none (.t 17), none⟩,
                 ⟨(some 19), .len (.t 18), none⟩,
                 ⟨(some 20), .bin .neq (.t 15) (.t 19), none⟩,
                 ⟨(some 21), .mv (.t 20), none⟩,
                 ⟨(some 22), .mv (.t 5), some (21, false)⟩,
                 ⟨(some 23), .len (.t 22), some (21, false)⟩,
                 ⟨(some 24), .bin .lss (.t 23) (.c (.int .i64 1)), some (21, false)⟩,
                 ⟨(some 25), .pick (.t 21) (.c (.b true)) (.t 24), none⟩,
                 ⟨(some 26), .mv (.t 25), none⟩,
                 ⟨(some 27), .mv (.t 5), some (26, false)⟩,
                 ⟨(some 28), .len (.t 27), some (26, false)⟩,
                 ⟨(some 29), .bin .gtr (.t 28) (.c (.int .i64 3)), some (26, false)⟩,
                 ⟨(some 30), .pick (.t 26) (.c (.b true)) (.t 29), none⟩])
               (.cond (.t 30)
                (.seq
                 (.reg none [⟨(some 2), .mv (.c (.b false)), none⟩])
                 .ret)
                .skip))
              (.seq
               (.reg none [⟨(some 31), .mv (.t 5), none⟩,
                 ⟨(some 32), .len (.t 31), none⟩,
                 ⟨(some 33), .mv (.c (.int .i64 0)), none⟩])
               (.block 2
                (.loop
                 (.seq
                  (.reg none [⟨(some 34), .bin .lss (.t 33) (.t 32), none⟩])
                  (.seq
                   (.cond (.t 34)
                    .skip
                    (.exit 2))
                   (.seq
                    (.block 3
                     (.seq
                      (.reg none [⟨(some 35), .iaddr 1 (.t 31) (.t 33), none⟩,
                        ⟨(some 36), .load none (.t 35), none⟩,
                        ⟨(some 7), .mv (.t 36), none⟩])
                      (.seq
                       (.seq
                        (.reg none [⟨(some 37), .mv (.t 7), none⟩,
                          ⟨(some 38), .bin .lss (.t 37) (.c (.int .i64 0)), none⟩,
                          ⟨(some 39), .mv (.t 38), none⟩,
                          ⟨(some 40), .mv (.t 7), some (39, false)⟩,
                          ⟨(some 41), .bin .gtr (.t 40) (.c (.int .i64 16)), some (39, false)⟩,
                          ⟨(some 42), .pick (.t 39) (.c (.b true)) (.t 41), none⟩])
                        (.cond (.t 42)
                         (.seq
                          (.reg none [⟨(some 2), .mv (.c (.b false)), none⟩])
                          .ret)
                         .skip))
                       (.reg none [⟨(some 43), .mv (.t 3), none⟩,
                         ⟨(some 44), .mv (.t 7), none⟩,
                         ⟨(some 45), .bin .add (.t 43) (.t 44), none⟩,
                         ⟨(some 3), .mv (.t 45), none⟩]))))
                    (.reg none [⟨(some 46), .bin .add (.t 33) (.c (.int .i64 1)), none⟩,
                      ⟨(some 33), .mv (.t 46), none⟩]))))))))))
           (.reg none [⟨(some 47), .bin .add (.t 10) (.c (.int .i64 1)), none⟩,
             ⟨(some 10), .mv (.t 47), none⟩])))))))
     (.seq
      (.reg none [⟨(some 48), .mv (.t 0), none⟩,
        ⟨(some 49), .len (.t 48), none⟩,
        ⟨(some 50), .bin .geq (.t 49) (.c (.int .i64 1)), none⟩,
        ⟨(some 51), .mv (.t 50), none⟩,
        ⟨(some 52), .mv (.t 0), some (51, true)⟩,
        ⟨(some 53), .len (.t 52), some (51, true)⟩,
        ⟨(some 54), .bin .leq (.t 53) (.c (.int .i64 3)), some (51, true)⟩,
        ⟨(some 55), .pick (.t 51) (.t 54) (.c (.b false)), none⟩,
        ⟨(some 56), .mv (.t 55), none⟩,
        ⟨(some 57), .mv (.t 3), some (56, true)⟩,
        ⟨(some 58), .bin .leq (.t 57) (.c (.int .i64 16)), some (56, true)⟩,
        ⟨(some 59), .pick (.t 56) (.t 58) (.c (.b false)), none⟩,
        ⟨(some 2), .mv (.t 59), none⟩])
      .ret)))) }
theorem f22P : prepF C Try.f22 = some f22A := by kernel_rfl

/-- congou/congoulaw06.awake -/
def f23A : AFunc :=
{ nargs := 0, res := [.t 0], body :=
  (.seq
   (.reg none [⟨(some 0), .mv (.c (.b false)), none⟩])
   (.seq
    (.reg none [⟨(some 5), .bslice [(.int .i64 0)] 2 1 [(0, (.c (.int .i64 1))), (1, (.c (.int .i64 2)))], none⟩,
      ⟨(some 6), .bslice [(.int .i64 0)] 2 1 [(0, (.c (.int .i64 3))), (1, (.c (.int .i64 4)))], none⟩,
      ⟨(some 7), .bslice [.nils] 2 1 [(0, (.t 5)), (1, (.t 6))], none⟩,
      ⟨(some 8), .call 19 [(.t 7)], none⟩,
      ⟨(some 4), .mv (.t 8), none⟩,
      ⟨(some 9), .extr (.t 4) 0, none⟩,
      ⟨(some 10), .extr (.t 4) 1, none⟩,
      ⟨(some 11), .extr (.t 4) 2, none⟩,
      ⟨(some 1), .mv (.t 9), none⟩,
      ⟨(some 2), .mv (.t 10), none⟩,
      ⟨(some 3), .mv (.t 11), none⟩])
    (.seq
     (.reg none [⟨(some 12), .mv (.t 3), none⟩,
       ⟨(some 13), .bin .eql (.t 12) (.c (.int .i64 0)), none⟩,
       ⟨(some 14), .mv (.t 13), none⟩,
       ⟨(some 15), .mv (.t 1), some (14, true)⟩,
       ⟨(some 16), .bslice [(.int .i64 0)] 2 1 [(0, (.c (.int .i64 3))), (1, (.c (.int .i64 7)))], some (14, true)⟩,
       ⟨(some 17), .call 25 [(.t 15), (.t 16)], some (14, true)⟩,
       ⟨(some 18), .pick (.t 14) (.t 17) (.c (.b false)), none⟩,
       ⟨(some 19), .mv (.t 18), none⟩,
       ⟨(some 20), .mv (.t 2), some (19, true)⟩,
       ⟨(some 21), .bslice [(.int .i64 0)] 2 1 [(0, (.c (.int .i64 4))), (1, (.c (.int .i64 6)))], some (19, true)⟩,
       ⟨(some 22), .call 25 [(.t 20), (.t 21)], some (19, true)⟩,
       ⟨(some 23), .pick (.t 19) (.t 22) (.c (.b false)), none⟩,
       ⟨(some 0), .mv (.t 23), none⟩])
     .ret))) }
theorem f23P : prepF C Try.f23 = some f23A := by kernel_rfl

/-- congou/congouref06.Sums -/
def f24A : AFunc :=
{ nargs := 1, res := [.t 2, .t 3], body :=
  (.seq
   (.reg none [⟨(some 2), .mv (.c .nils), none⟩,
     ⟨(some 3), .mv (.c .nils), none⟩])
   (.seq
    (.reg (some []) [⟨(some 10), .mv (.t 0), none⟩,
      ⟨(some 11), .len (.t 10), none⟩,
      ⟨(some 12), .mkslice 1 8 [(.int .i64 0)] (.t 11), none⟩,
      ⟨(some 13), .mv (.t 0), none⟩,
      ⟨(some 14), .iaddr 1 (.t 13) (.c (.int .i64 0)), none⟩,
      ⟨(some 15), .load none (.t 14), none⟩,
      ⟨(some 16), .len (.t 15), none⟩,
      ⟨(some 17), .mkslice 1 8 [(.int .i64 0)] (.t 16), none⟩,
      ⟨(some 4), .mv (.t 12), none⟩,
      ⟨(some 5), .mv (.t 17), none⟩])
    (.seq
     (.seq
      (.reg none [⟨(some 18), .mv (.t 0), none⟩,
        ⟨(some 19), .len (.t 18), none⟩,
        ⟨(some 20), .mv (.c (.int .i64 0)), none⟩])
      (.block 0
       (.loop
        (.seq
         (.reg none [⟨(some 21), .bin .lss (.t 20) (.t 19), none⟩])
         (.seq
          (.cond (.t 21)
           .skip
           (.exit 0))
          (.seq
           (.block 1
            (.seq
             (.reg none [⟨(some 22), .mv (.t 20), none⟩,
               ⟨(some 23), .iaddr 1 (.t 18) (.t 20), none⟩,
               ⟨(some 24), .load none (.t 23), none⟩,
               ⟨(some 6), .mv (.t 22), none⟩,
               ⟨(some 7), .mv (.t 24), none⟩])
             (.seq
              (.reg none [⟨(some 25), .mv (.t 7), none⟩,
                ⟨(some 26), .len (.t 25), none⟩,
                ⟨(some 27), .mv (.c (.int .i64 0)), none⟩])
              (.block 2
               (.loop
                (.seq
                 (.reg none [⟨(some 28), .bin .lss (.t 27) (.t 26), none⟩])
                 (.seq
                  (.cond (.t 28)
                   .skip
                   (.exit 2))
                  (.seq
                   (.block 3
                    (.seq
                     (.reg none [⟨(some 29), .mv (.t 27), none⟩,
                       ⟨(some 30), .iaddr 1 (.t 25) (.t 27), none⟩,
                       ⟨(some 31), .load none (.t 30), none⟩,
                       ⟨(some 8), .mv (.t 29), none⟩,
                       ⟨(some 9), .mv (.t 31), none⟩])
                     (.seq
                      (.reg none [⟨(some 32), .mv (.t 4), none⟩,
                        ⟨(some 33), .mv (.t 6), none⟩,
                        ⟨(some 34), .iaddr 1 (.t 32) (.t 33), none⟩,
                        ⟨(some 35), .load none (.t 34), none⟩,
                        ⟨(some 36), .mv (.t 9), none⟩,
                        ⟨(some 37), .bin .add (.t 35) (.t 36), none⟩,
                        ⟨(some 38), .iaddr 1 (.t 32) (.t 33), none⟩,
                        ⟨none, .store 1 (.t 38) (.t 37), none⟩])
                      (.reg none [⟨(some 39), .mv (.t 5), none⟩,
                        ⟨(some 40), .mv (.t 8), none⟩,
                        ⟨(some 41), .iaddr 1 (.t 39) (.t 40), none⟩,
                        ⟨(some 42), .load none (.t 41), none⟩,
                        ⟨(some 43), .mv (.t 9), none⟩,
                        ⟨(some 44), .bin .add (.t 42) (.t 43), none⟩,
                        ⟨(some 45), .iaddr 1 (.t 39) (.t 40), none⟩,
                        ⟨none, .store 1 (.t 45) (.t 44), none⟩]))))
                   (.reg none [⟨(some 46), .bin .add (.t 27) (.c (.int .i64 1)), none⟩,
                     ⟨(some 27), .mv (.t 46), none⟩])))))))))
           (.reg none [⟨(some 47), .bin .add (.t 20) (.c (.int .i64 1)), none⟩,
             ⟨(some 20), .mv (.t 47), none⟩])))))))
     (.seq
      (.reg none [⟨(some 48), .mv (.t 4), none⟩,
        ⟨(some 49), .mv (.t 5), none⟩,
        ⟨(some 2), .mv (.t 48), none⟩,
        ⟨(some 3), .mv (.t 49), none⟩])
      .ret)))) }
theorem f24P : prepF C Try.f24 = some f24A := by kernel_rfl

/-- slices.Equal[[]int,int] -/
def f25A : AFunc :=
{ nargs := 2, res := [.t 4], body :=
  (.seq
   (.reg none [⟨(some 4), .mv (.c (.b false)), none⟩])
   (.seq
    (.seq
     (.reg none [⟨(some 6), .mv (.t 0), none⟩,
       ⟨(some 7), .len (.t 6), none⟩,
       ⟨(some 8), .mv (.t 1), none⟩,
       ⟨(some 9), .len (.t 8), none⟩,
       ⟨(some 10), .bin .neq (.t 7) (.t 9), none⟩])
     (.cond (.t 10)
      (.seq
       (.reg none [⟨(some 4), .mv (.c (.b false)), none⟩])
       .ret)
      .skip))
    (.seq
     (.seq
      (.reg none [⟨(some 11), .mv (.t 0), none⟩,
        ⟨(some 12), .len (.t 11), none⟩,
        ⟨(some 13), .mv (.c (.int .i64 0)), none⟩])
      (.block 0
       (.loop
        (.seq
         (.reg none [⟨(some 14), .bin .lss (.t 13) (.t 12), none⟩])
         (.seq
          (.cond (.t 14)
           .skip
           (.exit 0))
          (.seq
           (.block 1
            (.seq
             (.reg none [⟨(some 15), .mv (.t 13), none⟩,
               ⟨(some 5), .mv (.t 15), none⟩])
             (.seq
              (.reg (some []) [⟨(some 16), .mv (.t 0), none⟩,
                ⟨(some 17), .mv (.t 5), none⟩,
                ⟨(some 18), .iaddr 1 (.t 16) (.t 17), none⟩,
                ⟨(some 19), .load none (.t 18), none⟩,
                ⟨(some 20), .mv (.t 1), none⟩,
                ⟨(some 21), .mv (.t 5), none⟩,
                ⟨(some 22), .iaddr 1 (.t 20) (.t 21), none⟩,
                ⟨(some 23), .load none (.t 22), none⟩,
                ⟨(some 24), .bin .neq (.t 19) (.t 23), none⟩])
              (.cond (.t 24)
               (.seq
                (.reg none [⟨(some 4), .mv (.c (.b false)), none⟩])
                .ret)
               .skip))))
           (.reg none [⟨(some 25), .bin .add (.t 13) (.c (.int .i64 1)), none⟩,
             ⟨(some 13), .mv (.t 25), none⟩])))))))
     (.seq
      (.reg none [⟨(some 4), .mv (.c (.b true)), none⟩])
      .ret)))) }
theorem f25P : prepF C Try.f25 = some f25A := by kernel_rfl

/-- congou/congoulaw06.list -/
def f39A : AFunc :=
{ nargs := 1, res := [.t 2], body :=
  (.seq
   (.reg none [⟨(some 2), .mv (.c .nils), none⟩])
   (.seq
    (.reg none [⟨(some 3), .mv (.t 0), none⟩,
      ⟨(some 4), .mv (.t 0), none⟩,
      ⟨(some 5), .len (.t 4), none⟩,
      ⟨(some 6), .mn [(.t 5), (.c (.int .i64 6))], none⟩,
      ⟨(some 7), .slice 1 (.t 3) none (some (.t 6)) none, none⟩,
      ⟨(some 8), .call 56 [(.t 7)], none⟩,
      ⟨(some 2), .mv (.t 8), none⟩])
    .ret)) }
theorem f39P : prepF C Try.f39 = some f39A := by kernel_rfl

/-- congou/counts.Family -/
def f42A : AFunc :=
{ nargs := 1, res := [.t 2, .t 3], body :=
  (.seq
   (.reg none [⟨(some 2), .mv (.c .nils), none⟩,
     ⟨(some 3), .mv (.c (.int .i64 0)), none⟩])
   (.seq
    (.seq
     (.reg none [⟨(some 6), .mv (.t 0), none⟩,
       ⟨(some 7), .call 70 [(.t 6)], none⟩,
       ⟨(some 8), .un .not (.t 7), none⟩])
     (.cond (.t 8)
      (.seq
       (.reg none [⟨(some 2), .mv (.c .nils), none⟩,
         ⟨(some 3), .mv (.c (.int .i64 2)), none⟩])
       .ret)
      .skip))
    (.seq
     (.reg none [⟨(some 4), .alloc [.nils], none⟩])
     (.seq
      (.seq
       (.reg none [⟨(some 9), .mv (.t 0), none⟩,
         ⟨(some 10), .call 82 [(.t 9)], none⟩,
         ⟨(some 11), .mkfn 80 [(.t 10)] [], none⟩])
       (.block 0
        (.rangeF 18 (.t 11) [12]
         (.reg none [⟨(some 5), .mv (.t 12), none⟩])
         (.block 1
          (.reg none [⟨(some 13), .load none (.t 4), none⟩,
            ⟨(some 14), .mv (.t 5), none⟩,
            ⟨(some 15), .bslice [.nils] 1 1 [(0, (.t 14))], none⟩,
            ⟨(some 16), .append 1 24 (.t 13) (.t 15), none⟩,
            ⟨none, .store 1 (.t 4) (.t 16), none⟩])))))
      (.seq
       (.reg none [⟨(some 17), .load none (.t 4), none⟩,
         ⟨(some 2), .mv (.t 17), none⟩,
         ⟨(some 3), .mv (.c (.int .i64 0)), none⟩])
       .ret))))) }
theorem f42P : prepF C Try.f42 = some f42A := by kernel_rfl

/-- congou/counts.Chance -/
def f49A : AFunc :=
{ nargs := 1, res := [.c 2 (some 2), .t 3], body :=
  (.seq
   (.reg none [⟨(some 2), .alloc [(.int .i64 0), (.int .i64 0)], none⟩,
     ⟨(some 3), .mv (.c (.int .i64 0)), none⟩])
   (.seq
    (.seq
     (.reg none [⟨(some 4), .mv (.t 0), none⟩,
       ⟨(some 5), .call 70 [(.t 4)], none⟩,
       ⟨(some 6), .un .not (.t 5), none⟩])
     (.cond (.t 6)
      (.seq
       (.reg none [⟨(some 7), .build [(.int .i64 0), (.int .i64 0)] [], none⟩,
         ⟨none, .store 2 (.t 2) (.t 7), none⟩,
         ⟨(some 3), .mv (.c (.int .i64 2)), none⟩])
       .ret)
      .skip))
    (.seq
     (.reg none [⟨(some 8), .mv (.t 0), none⟩,
       ⟨(some 9), .call 86 [(.t 8)], none⟩,
       ⟨(some 10), .mv (.t 0), none⟩,
       ⟨(some 11), .call 82 [(.t 10)], none⟩,
       ⟨(some 12), .field 1 none (.t 11), none⟩,
       ⟨(some 13), .call 87 [(.t 12)], none⟩,
       ⟨(some 14), .call 73 [(.t 9), (.t 13)], none⟩,
       ⟨none, .store 2 (.t 2) (.t 14), none⟩,
       ⟨(some 3), .mv (.c (.int .i64 0)), none⟩])
     .ret))) }
theorem f49P : prepF C Try.f49 = some f49A := by kernel_rfl

/-- congou/counts.Tail -/
def f50A : AFunc :=
{ nargs := 1, res := [.c 2 (some 2), .t 3], body :=
  (.seq
   (.reg none [⟨(some 2), .alloc [(.int .i64 0), (.int .i64 0)], none⟩,
     ⟨(some 3), .mv (.c (.int .i64 0)), none⟩])
   (.seq
    (.seq
     (.reg none [⟨(some 8), .mv (.t 0), none⟩,
       ⟨(some 9), .call 70 [(.t 8)], none⟩,
       ⟨(some 10), .un .not (.t 9), none⟩])
     (.cond (.t 10)
      (.seq
       (.reg none [⟨(some 11), .build [(.int .i64 0), (.int .i64 0)] [], none⟩,
         ⟨none, .store 2 (.t 2) (.t 11), none⟩,
         ⟨(some 3), .mv (.c (.int .i64 2)), none⟩])
       .ret)
      .skip))
    (.seq
     (.reg none [⟨(some 12), .mv (.t 0), none⟩,
       ⟨(some 13), .call 86 [(.t 12)], none⟩,
       ⟨(some 4), .alloc [(.int .i64 0)], none⟩,
       ⟨none, .store 1 (.t 4) (.t 13), none⟩])
     (.seq
      (.reg none [⟨(some 5), .alloc [(.int .i64 0)], none⟩,
        ⟨none, .store 1 (.t 5) (.c (.int .i64 0)), none⟩])
      (.seq
       (.seq
        (.reg none [⟨(some 14), .mv (.t 0), none⟩,
          ⟨(some 15), .call 82 [(.t 14)], none⟩,
          ⟨(some 16), .mkfn 80 [(.t 15)] [], none⟩])
        (.block 0
         (.rangeF 32 (.t 16) [17]
          (.reg none [⟨(some 6), .mv (.t 17), none⟩])
          (.block 1
           (.seq
            (.reg none [⟨(some 18), .mv (.t 6), none⟩,
              ⟨(some 19), .call 86 [(.t 18)], none⟩,
              ⟨(some 7), .mv (.t 19), none⟩])
            (.seq
             (.reg none [⟨(some 20), .mv (.t 7), none⟩,
               ⟨(some 21), .load none (.t 4), none⟩,
               ⟨(some 22), .bin .leq (.t 20) (.t 21), none⟩])
             (.cond (.t 22)
              (.reg none [⟨(some 23), .load none (.t 5), none⟩,
                ⟨(some 24), .mv (.t 7), none⟩,
                ⟨(some 25), .bin .add (.t 23) (.t 24), none⟩,
                ⟨none, .store 1 (.t 5) (.t 25), none⟩])
              .skip)))))))
       (.seq
        (.reg (some []) [⟨(some 26), .load none (.t 5), none⟩,
          ⟨(some 27), .mv (.t 0), none⟩,
          ⟨(some 28), .call 82 [(.t 27)], none⟩,
          ⟨(some 29), .field 1 none (.t 28), none⟩,
          ⟨(some 30), .call 87 [(.t 29)], none⟩,
          ⟨(some 31), .call 73 [(.t 26), (.t 30)], none⟩,
          ⟨none, .store 2 (.t 2) (.t 31), none⟩,
          ⟨(some 3), .mv (.c (.int .i64 0)), none⟩])
        .ret)))))) }
theorem f50P : prepF C Try.f50 = some f50A := by kernel_rfl

/-- congou/congoulaw06.small -/
def f53A : AFunc :=
{ nargs := 1, res := [.t 2], body :=
  (.seq
   (.reg none [⟨(some 1), .box (.t 0), none⟩,
     ⟨(some 2), .mv (.c (.b false)), none⟩])
   (.seq
    (.reg none [⟨(some 3), .faddr 1 (.t 1), none⟩,
      ⟨(some 4), .load none (.t 3), none⟩,
      ⟨(some 5), .bin .geq (.t 4) (.c (.int .i64 1)), none⟩,
      ⟨(some 6), .mv (.t 5), none⟩,
      ⟨(some 7), .faddr 1 (.t 1), some (6, true)⟩,
      ⟨(some 8), .load none (.t 7), some (6, true)⟩,
      ⟨(some 9), .bin .leq (.t 8) (.c (.int .i64 1073741824)), some (6, true)⟩,
      ⟨(some 10), .pick (.t 6) (.t 9) (.c (.b false)), none⟩,
      ⟨(some 11), .mv (.t 10), none⟩,
      ⟨(some 12), .faddr 0 (.t 1), some (11, true)⟩,
      ⟨(some 13), .load none (.t 12), some (11, true)⟩,
      ⟨(some 14), .bin .geq (.t 13) (.c (.int .i64 0)), some (11, true)⟩,
      ⟨(some 15), .pick (.t 11) (.t 14) (.c (.b false)), none⟩,
      ⟨(some 16), .mv (.t 15), none⟩,
      ⟨(some 17), .faddr 0 (.t 1), some (16, true)⟩,
      ⟨(some 18), .load none (.t 17), some (16, true)⟩,
      ⟨(some 19), .bin .leq (.t 18) (.c (.int .i64 1099511627776)), some (16, true)⟩,
      ⟨(some 20), .pick (.t 16) (.t 19) (.c (.b false)), none⟩,
      ⟨(some 2), .mv (.t 20), none⟩])
    .ret)) }
theorem f53P : prepF C Try.f53 = some f53A := by kernel_rfl

/-- congou/congouref06.Less -/
def f54A : AFunc :=
{ nargs := 2, res := [.t 4], body :=
  (.seq
   (.reg none [⟨(some 2), .box (.t 0), none⟩,
     ⟨(some 3), .box (.t 1), none⟩,
     ⟨(some 4), .mv (.c (.b false)), none⟩])
   (.seq
    (.reg none [⟨(some 5), .faddr 0 (.t 2), none⟩,
      ⟨(some 6), .load none (.t 5), none⟩,
      ⟨(some 7), .faddr 1 (.t 3), none⟩,
      ⟨(some 8), .load none (.t 7), none⟩,
      ⟨(some 9), .bin .mul (.t 6) (.t 8), none⟩,
      ⟨(some 10), .faddr 0 (.t 3), none⟩,
      ⟨(some 11), .load none (.t 10), none⟩,
      ⟨(some 12), .faddr 1 (.t 2), none⟩,
      ⟨(some 13), .load none (.t 12), none⟩,
      ⟨(some 14), .bin .mul (.t 11) (.t 13), none⟩,
      ⟨(some 15), .bin .lss (.t 9) (.t 14), none⟩,
      ⟨(some 4), .mv (.t 15), none⟩])
    .ret)) }
theorem f54P : prepF C Try.f54 = some f54A := by kernel_rfl

/-- congou/congouref06.Frac -/
def f55A : AFunc :=
{ nargs := 2, res := [.c 4 (some 2)], body :=
  (.seq
   (.reg none [⟨(some 4), .alloc [(.int .i64 0), (.int .i64 0)], none⟩])
   (.seq
    (.reg none [⟨(some 7), .mv (.t 0), none⟩,
      ⟨(some 8), .mv (.t 0), none⟩,
      ⟨(some 9), .un .neg (.t 8), none⟩,
      ⟨(some 10), .mx [(.t 7), (.t 9)], none⟩,
      ⟨(some 11), .mv (.t 1), none⟩,
      ⟨(some 5), .mv (.t 10), none⟩,
      ⟨(some 6), .mv (.t 11), none⟩])
    (.seq
     (.block 0
      (.loop
       (.seq
        (.seq
         (.reg none [⟨(some 12), .mv (.t 6), none⟩,
           ⟨(some 13), .bin .neq (.t 12) (.c (.int .i64 0)), none⟩])
         (.cond (.t 13)
          .skip
          (.exit 0)))
        (.block 1
         (.reg (some []) [⟨(some 14), .mv (.t 6), none⟩,
           ⟨(some 15), .mv (.t 5), none⟩,
           ⟨(some 16), .mv (.t 6), none⟩,
           ⟨(some 17), .bin .rem (.t 15) (.t 16), none⟩,
           ⟨(some 5), .mv (.t 14), none⟩,
           ⟨(some 6), .mv (.t 17), none⟩])))))
     (.seq
      (.reg (some []) [⟨(some 18), .mv (.t 0), none⟩,
        ⟨(some 19), .mv (.t 5), none⟩,
        ⟨(some 20), .bin .quo (.t 18) (.t 19), none⟩,
        ⟨(some 21), .mv (.t 1), none⟩,
        ⟨(some 22), .mv (.t 5), none⟩,
        ⟨(some 23), .bin .quo (.t 21) (.t 22), none⟩,
        ⟨(some 24), .build [(.int .i64 0), (.int .i64 0)] [(0, 1, (.t 20)), (1, 1, (.t 23))], none⟩,
        ⟨none, .store 2 (.t 4) (.t 24), none⟩])
      .ret)))) }
theorem f55P : prepF C Try.f55 = some f55A := by kernel_rfl

/-- slices.Clone[[]int,int] -/
def f56A : AFunc :=
{ nargs := 1, res := [.t 2], body :=
  (.seq
   (.reg none [⟨(some 2), .mv (.c .nils), none⟩])
   (.seq
    (.seq
     (.reg none [⟨(some 3), .mv (.t 0), none⟩,
       ⟨(some 4), .seq false (.t 3) (.c .nils), none⟩])
     (.cond (.t 4)
      (.seq
       (.reg none [⟨(some 2), .mv (.c .nils), none⟩])
       .ret)
      .skip))
    (.seq
     (.reg none [⟨(some 5), .bslice [(.int .i64 0)] 0 1 [], none⟩,
       ⟨(some 6), .mv (.t 0), none⟩,
       ⟨(some 7), .append 1 8 (.t 5) (.t 6), none⟩,
       ⟨(some 2), .mv (.t 7), none⟩])
     .ret))) }
theorem f56P : prepF C Try.f56 = some f56A := by kernel_rfl

/-- (congou/counts.table).valid -/
def f70A : AFunc :=
{ nargs := 1, res := [.t 2], body :=
  (.seq
   (.reg none [⟨(some 2), .mv (.c (.b false)), none⟩])
   (.seq
    (.seq
     (.reg none [⟨(some 8), .mv (.t 0), none⟩,
       ⟨(some 9), .len (.t 8), none⟩,
       ⟨(some 10), .bin .lss (.t 9) (.c (.int .i64 1)), none⟩,
       ⟨(some 11), .mv (.t 10), none⟩,
       ⟨(some 12), .mv (.t 0), some (11, false)⟩,
       ⟨(some 13), .len (.t 12), some (11, false)⟩,
       ⟨(some 14), .bin .gtr (.t 13) (.c (.int .i64 3)), some (11, false)⟩,
       ⟨(some 15), .pick (.t 11) (.c (.b true)) (.t 14), none⟩])
     (.cond (.t 15)
      (.seq
       (.reg none [⟨(some 2), .mv (.c (.b false)), none⟩])
       .ret)
      .skip))
    (.seq
     (.reg none [⟨(some 3), .mv (.c (.int .i64 0)), none⟩])
     (.seq
      (.seq
       (.reg none [⟨(some 16), .mv (.t 0), none⟩,
         ⟨(some 17), .len (.t 16), none⟩,
         ⟨(some 18), .mv (.c (.int .i64 0)), none⟩])
       (.block 0
        (.loop
         (.seq
          (.reg none [⟨(some 19), .bin .lss (.t 18) (.t 17), none⟩])
          (.seq
           (.cond (.t 19)
            .skip
            (.exit 0))
           (.seq
            (.block 1
             (.seq
              (.reg none [⟨(some 20), .iaddr 1 (.t 16) (.t 18), none⟩,
                ⟨(some 21), .load none (.t 20), none⟩,
                ⟨(some 5), .mv (.t 21), none⟩])
              (.seq
               (.seq
                (.reg none [⟨(some 22), .mv (.t 5), none⟩,
                  ⟨(some 23), .len (.t 22), none⟩,
                  ⟨(some 24), .bin .lss (.t 23) (.c (.int .i64 1)), none⟩,
                  ⟨(some 25), .mv (.t 24), none⟩,
                  ⟨(some 26), .mv (.t 5), some (25, false)⟩,
                  ⟨(some 27), .len (.t 26), some (25, false)⟩,
                  ⟨(some 28), .bin .gtr (.t 27) (.c (.int .i64 3)), some (25, false)⟩,
                  ⟨(some 29), .pick (.t 25) (.c (.b true)) (.t 28), none⟩,
                  ⟨(some 30), .mv (.t 29), none⟩,
                  ⟨(some 31), .mv (.t 5), some (30, false)⟩,
                  ⟨(some 32), .len (.t 31), some (30, false)⟩,
                  ⟨(some 33), .mv (.t 0), some (30, false)⟩,
                  ⟨(some 34), .iaddr 1 (.t 33) (.c (.int .i64 0)), some (30, false)⟩,
                  ⟨(some 35), .load none (.t 34), some (30, false)⟩,
                  ⟨(some 36), .len (.t 35), some (30, false)⟩,
                  ⟨(some 37), .bin .neq (.t 32) (.t 36), some (30, false)⟩,
                  ⟨(some 38), .pick (.t 30) (.c (.b true)) (.t 37), none⟩,
                  ⟨(some 39), .mv (.t 38), none⟩,
                  ⟨(some 40), .mv (.t 5), some (39, false)⟩,
                  ⟨(some 41), .call 79 [(.t 40)], some (39, false)⟩,
                  ⟨(some 42), .un .not (.t 41), some (39, false)⟩,
                  ⟨(some 43), .pick (.t 39) (.c (.b true)) (.t 42), none⟩])
                (.cond (.t 43)
                 (.seq
                  (.reg none [⟨(some 2), .mv (.c (.b false)), none⟩])
                  .ret)
                 .skip))
               (.seq
                (.reg none [⟨(some 44), .mv (.t 5), none⟩,
                  ⟨(some 45), .len (.t 44), none⟩,
                  ⟨(some 46), .mv (.c (.int .i64 0)), none⟩])
                (.block 2
                 (.loop
                  (.seq
                   (.reg none [⟨(some 47), .bin .lss (.t 46) (.t 45), none⟩])
                   (.seq
                    (.cond (.t 47)
                     .skip
                     (.exit 2))
                    (.seq
                     (.block 3
                      (.seq
                       (.reg none [⟨(some 48), .iaddr 1 (.t 44) (.t 46), none⟩,
                         ⟨(some 49), .load none (.t 48), none⟩,
                         ⟨(some 7), .mv (.t 49), none⟩])
                       (.reg none [⟨(some 50), .mv (.t 3), none⟩,
                         ⟨(some 51), .mv (.t 7), none⟩,
                         ⟨(some 52), .bin .add (.t 50) (.t 51), none⟩,
                         ⟨(some 3), .mv (.t 52), none⟩])))
                     (.reg none [⟨(some 53), .bin .add (.t 46) (.c (.int .i64 1)), none⟩,
                       ⟨(some 46), .mv (.t 53), none⟩]))))))))))
            (.reg none [⟨(some 54), .bin .add (.t 18) (.c (.int .i64 1)), none⟩,
              ⟨(some 18), .mv (.t 54), none⟩])))))))
      (.seq
       (.reg none [⟨(some 55), .mv (.t 3), none⟩,
         ⟨(some 56), .bin .leq (.t 55) (.c (.int .i64 16)), none⟩,
         ⟨(some 2), .mv (.t 56), none⟩])
       .ret))))) }
theorem f70P : prepF C Try.f70 = some f70A := by kernel_rfl

/-- (congou/counts.table).sums -/
def f71A : AFunc :=
{ nargs := 1, res := [.t 2, .t 3], body :=
  (.seq
   (.reg none [⟨(some 2), .mv (.c .nils), none⟩,
     ⟨(some 3), .mv (.c .nils), none⟩])
   (.seq
    (.reg none [⟨(some 9), .mv (.t 0), none⟩,
      ⟨(some 10), .iaddr 1 (.t 9) (.c (.int .i64 0)), none⟩,
      ⟨(some 11), .load none (.t 10), none⟩,
      ⟨(some 12), .len (.t 11), none⟩,
      ⟨(some 13), .mkslice 1 8 [(.int .i64 0)] (.t 12), none⟩,
      ⟨(some 3), .mv (.t 13), none⟩])
    (.seq
     (.seq
      (.reg none [⟨(some 14), .mv (.t 0), none⟩,
        ⟨(some 15), .len (.t 14), none⟩,
        ⟨(some 16), .mv (.c (.int .i64 0)), none⟩])
      (.block 0
       (.loop
        (.seq
         (.reg none [⟨(some 17), .bin .lss (.t 16) (.t 15), none⟩])
         (.seq
          (.cond (.t 17)
           .skip
           (.exit 0))
          (.seq
           (.block 1
            (.seq
             (.reg none [⟨(some 18), .iaddr 1 (.t 14) (.t 16), none⟩,
               ⟨(some 19), .load none (.t 18), none⟩,
               ⟨(some 5), .mv (.t 19), none⟩])
             (.seq
              (.reg none [⟨(some 6), .mv (.c (.int .i64 0)), none⟩])
              (.seq
               (.seq
                (.reg none [⟨(some 20), .mv (.t 5), none⟩,
                  ⟨(some 21), .len (.t 20), none⟩,
                  ⟨(some 22), .mv (.c (.int .i64 0)), none⟩])
                (.block 2
                 (.loop
                  (.seq
                   (.reg none [⟨(some 23), .bin .lss (.t 22) (.t 21), none⟩])
                   (.seq
                    (.cond (.t 23)
                     .skip
                     (.exit 2))
                    (.seq
                     (.block 3
                      (.seq
                       (.reg none [⟨(some 24), .mv (.t 22), none⟩,
                         ⟨(some 25), .iaddr 1 (.t 20) (.t 22), none⟩,
                         ⟨(some 26), .load none (.t 25), none⟩,
                         ⟨(some 7), .mv (.t 24), none⟩,
                         ⟨(some 8), .mv (.t 26), none⟩])
                       (.seq
                        (.reg none [⟨(some 27), .mv (.t 6), none⟩,
                          ⟨(some 28), .mv (.t 8), none⟩,
                          ⟨(some 29), .bin .add (.t 27) (.t 28), none⟩,
                          ⟨(some 6), .mv (.t 29), none⟩])
                        (.reg none [⟨(some 30), .mv (.t 3), none⟩,
                          ⟨(some 31), .mv (.t 7), none⟩,
                          ⟨(some 32), .iaddr 1 (.t 30) (.t 31), none⟩,
                          ⟨(some 33), .load none (.t 32), none⟩,
                          ⟨(some 34), .mv (.t 8), none⟩,
                          ⟨(some 35), .bin .add (.t 33) (.t 34), none⟩,
                          ⟨(some 36), .iaddr 1 (.t 30) (.t 31), none⟩,
                          ⟨none, .store 1 (.t 36) (.t 35), none⟩]))))
                     (.reg none [⟨(some 37), .bin .add (.t 22) (.c (.int .i64 1)), none⟩,
                       ⟨(some 22), .mv (.t 37), none⟩])))))))
               (.reg none [⟨(some 38), .mv (.t 2), none⟩,
                 ⟨(some 39), .mv (.t 6), none⟩,
                 ⟨(some 40), .bslice [(.int .i64 0)] 1 1 [(0, (.t 39))], none⟩,
                 ⟨(some 41), .append 1 8 (.t 38) (.t 40), none⟩,
                 ⟨(some 2), .mv (.t 41), none⟩])))))
           (.reg none [⟨(some 42), .bin .add (.t 16) (.c (.int .i64 1)), none⟩,
             ⟨(some 16), .mv (.t 42), none⟩])))))))
     (.seq
      (.reg none [⟨(some 43), .mv (.t 2), none⟩,
        ⟨(some 44), .mv (.t 3), none⟩,
        ⟨(some 2), .mv (.t 43), none⟩,
        ⟨(some 3), .mv (.t 44), none⟩])
      .ret)))) }
theorem f71P : prepF C Try.f71 = some f71A := by kernel_rfl

/-- congou/counts.frac -/
def f73A : AFunc :=
{ nargs := 2, res := [.c 4 (some 2)], body :=
  (.seq
   (.reg none [⟨(some 4), .alloc [(.int .i64 0), (.int .i64 0)], none⟩])
   (.seq
    (.reg none [⟨(some 6), .mv (.t 0), none⟩,
      ⟨(some 7), .mv (.t 1), none⟩,
      ⟨(some 8), .call 99 [(.t 6), (.t 7)], none⟩,
      ⟨(some 5), .mv (.t 8), none⟩])
    (.seq
     (.reg (some []) [⟨(some 9), .mv (.t 0), none⟩,
       ⟨(some 10), .mv (.t 5), none⟩,
       ⟨(some 11), .bin .quo (.t 9) (.t 10), none⟩,
       ⟨(some 12), .mv (.t 1), none⟩,
       ⟨(some 13), .mv (.t 5), none⟩,
       ⟨(some 14), .bin .quo (.t 12) (.t 13), none⟩,
       ⟨(some 15), .build [(.int .i64 0), (.int .i64 0)] [(0, 1, (.t 11)), (1, 1, (.t 14))], none⟩,
       ⟨none, .store 2 (.t 4) (.t 15), none⟩])
     .ret))) }
theorem f73P : prepF C Try.f73 = some f73A := by kernel_rfl

/-- congou/counts.isSums -/
def f79A : AFunc :=
{ nargs := 1, res := [.t 2], body :=
  (.seq
   (.reg none [⟨(some 2), .mv (.c (.b false)), none⟩])
   (.seq
    (.reg none [⟨(some 3), .mv (.c (.int .i64 0)), none⟩])
    (.seq
     (.seq
      (.reg none [⟨(some 6), .mv (.t 0), none⟩,
        ⟨(some 7), .len (.t 6), none⟩,
        ⟨(some 8), .mv (.c (.int .i64 0)), none⟩])
      (.block 0
       (.loop
        (.seq
         (.reg none [⟨(some 9), .bin .lss (.t 8) (.t 7), none⟩])
         (.seq
          (.cond (.t 9)
           .skip
           (.exit 0))
          (.seq
           (.block 1
            (.seq
             (.reg none [⟨(some 10), .iaddr 1 (.t 6) (.t 8), none⟩,
               ⟨(some 11), .load none (.t 10), none⟩,
               ⟨(some 5), .mv (.t 11), none⟩])
             (.seq
              (.seq
               (.reg none [⟨(some 12), .mv (.t 5), none⟩,
                 ⟨(some 13), .bin .lss (.t 12) (.c (.int .i64 0)), none⟩,
                 ⟨(some 14), .mv (.t 13), none⟩,
                 ⟨(some 15), .mv (.t 5), some (14, false)⟩,
                 ⟨(some 16), .bin .gtr (.t 15) (.c (.int .i64 16)), some (14, false)⟩,
                 ⟨(some 17), .pick (.t 14) (.c (.b true)) (.t 16), none⟩])
               (.cond (.t 17)
                (.seq
                 (.reg none [⟨(some 2), .mv (.c (.b false)), none⟩])
                 .ret)
                .skip))
              (.reg none [⟨(some 18), .mv (.t 3), none⟩,
                ⟨(some 19), .mv (.t 5), none⟩,
                ⟨(some 20), .bin .add (.t 18) (.t 19), none⟩,
                ⟨(some 3), .mv (.t 20), none⟩]))))
           (.reg none [⟨(some 21), .bin .add (.t 8) (.c (.int .i64 1)), none⟩,
             ⟨(some 8), .mv (.t 21), none⟩])))))))
     (.seq
      (.reg none [⟨(some 22), .mv (.t 3), none⟩,
        ⟨(some 23), .bin .leq (.t 22) (.c (.int .i64 16)), none⟩,
        ⟨(some 2), .mv (.t 23), none⟩])
      .ret)))) }
theorem f79P : prepF C Try.f79 = some f79A := by kernel_rfl

/-- (congou/counts.margins).all -/
def f80A : AFunc :=
{ nargs := 2, res := [], body :=
  (.seq
   (.reg none [⟨(some 2), .box (.t 0), none⟩,
     ⟨(some 3), .box (.t 1), none⟩])
   (.seq
    (.reg none [⟨(some 8), .faddr 0 (.t 2), none⟩,
      ⟨(some 9), .load none (.t 8), none⟩,
      ⟨(some 10), .len (.t 9), none⟩,
      ⟨(some 11), .mkslice 1 24 [.nils] (.t 10), none⟩,
      ⟨(some 4), .alloc [.nils], none⟩,
      ⟨none, .store 1 (.t 4) (.t 11), none⟩])
    (.seq
     (.seq
      (.reg none [⟨(some 12), .load none (.t 4), none⟩,
        ⟨(some 13), .len (.t 12), none⟩,
        ⟨(some 14), .mv (.c (.int .i64 0)), none⟩])
      (.block 0
       (.loop
        (.seq
         (.reg none [⟨(some 15), .bin .lss (.t 14) (.t 13), none⟩])
         (.seq
          (.cond (.t 15)
           .skip
           (.exit 0))
          (.seq
           (.block 1
            (.seq
             (.reg none [⟨(some 16), .mv (.t 14), none⟩,
               ⟨(some 5), .mv (.t 16), none⟩])
             (.reg (some []) [⟨(some 17), .load none (.t 4), none⟩,
               ⟨(some 18), .mv (.t 5), none⟩,
               ⟨(some 19), .faddr 1 (.t 2), none⟩,
               ⟨(some 20), .load none (.t 19), none⟩,
               ⟨(some 21), .len (.t 20), none⟩,
               ⟨(some 22), .mkslice 1 8 [(.int .i64 0)] (.t 21), none⟩,
               ⟨(some 23), .iaddr 1 (.t 17) (.t 18), none⟩,
               ⟨none, .store 1 (.t 23) (.t 22), none⟩])))
           (.reg none [⟨(some 24), .bin .add (.t 14) (.c (.int .i64 1)), none⟩,
             ⟨(some 14), .mv (.t 24), none⟩])))))))
     (.seq
      (.reg none [⟨(some 25), .faddr 1 (.t 2), none⟩,
        ⟨(some 26), .load none (.t 25), none⟩,
        ⟨(some 27), .call 56 [(.t 26)], none⟩,
        ⟨(some 6), .alloc [.nils], none⟩,
        ⟨none, .store 1 (.t 6) (.t 27), none⟩])
      (.seq
       (.reg none [⟨(some 7), .alloc [.nilf], none⟩])
       (.seq
        (.reg none [⟨(some 28), .mkfn 100 [] [(.t 2), (.t 6), (.t 3), (.t 4), (.t 7)], none⟩,
          ⟨none, .store 1 (.t 7) (.t 28), none⟩])
        (.reg (some []) [⟨(some 29), .load none (.t 7), none⟩,
          ⟨(some 30), .faddr 0 (.t 2), none⟩,
          ⟨(some 31), .load none (.t 30), none⟩,
          ⟨(some 32), .iaddr 1 (.t 31) (.c (.int .i64 0)), none⟩,
          ⟨(some 33), .load none (.t 32), none⟩,
          ⟨(some 34), .callv (.t 29) [(.c (.int .i64 0)), (.c (.int .i64 0)), (.t 33)], none⟩]))))))) }
theorem f80P : prepF C Try.f80 = some f80A := by kernel_rfl

/-- (congou/counts.table).family -/
def f82A : AFunc :=
{ nargs := 1, res := [.c 2 (some 2)], body :=
  (.seq
   (.reg none [⟨(some 2), .alloc [.nils, .nils], none⟩])
   (.seq
    (.reg none [⟨(some 6), .mv (.t 0), none⟩,
      ⟨(some 7), .call 71 [(.t 6)], none⟩,
      ⟨(some 5), .mv (.t 7), none⟩,
      ⟨(some 8), .extr (.t 5) 0, none⟩,
      ⟨(some 9), .extr (.t 5) 1, none⟩,
      ⟨(some 3), .mv (.t 8), none⟩,
      ⟨(some 4), .mv (.t 9), none⟩])
    (.seq
     (.reg none [⟨(some 10), .mv (.t 3), none⟩,
       ⟨(some 11), .mv (.t 4), none⟩,
       ⟨(some 12), .build [.nils, .nils] [(0, 1, (.t 10)), (1, 1, (.t 11))], none⟩,
       ⟨none, .store 2 (.t 2) (.t 12), none⟩])
     .ret))) }
theorem f82P : prepF C Try.f82 = some f82A := by kernel_rfl

/-- (congou/counts.table).clone -/
def f84A : AFunc :=
{ nargs := 1, res := [.t 2], body :=
  (.seq
   (.reg none [⟨(some 2), .mv (.c .nils), none⟩])
   (.seq
    (.reg none [⟨(some 3), .mv (.c .nils), none⟩])
    (.seq
     (.seq
      (.reg none [⟨(some 6), .mv (.t 0), none⟩,
        ⟨(some 7), .len (.t 6), none⟩,
        ⟨(some 8), .mv (.c (.int .i64 0)), none⟩])
      (.block 0
       (.loop
        (.seq
         (.reg none [⟨(some 9), .bin .lss (.t 8) (.t 7), none⟩])
         (.seq
          (.cond (.t 9)
           .skip
           (.exit 0))
          (.seq
           (.block 1
            (.seq
             (.reg none [⟨(some 10), .iaddr 1 (.t 6) (.t 8), none⟩,
               ⟨(some 11), .load none (.t 10), none⟩,
               ⟨(some 5), .mv (.t 11), none⟩])
             (.reg none [⟨(some 12), .mv (.t 3), none⟩,
               ⟨(some 13), .mv (.t 5), none⟩,
               ⟨(some 14), .call 56 [(.t 13)], none⟩,
               ⟨(some 15), .bslice [.nils] 1 1 [(0, (.t 14))], none⟩,
               ⟨(some 16), .append 1 24 (.t 12) (.t 15), none⟩,
               ⟨(some 3), .mv (.t 16), none⟩])))
           (.reg none [⟨(some 17), .bin .add (.t 8) (.c (.int .i64 1)), none⟩,
             ⟨(some 8), .mv (.t 17), none⟩])))))))
     (.seq
      (.reg none [⟨(some 18), .mv (.t 3), none⟩,
        ⟨(some 2), .mv (.t 18), none⟩])
      .ret)))) }
theorem f84P : prepF C Try.f84 = some f84A := by kernel_rfl

/-- (congou/counts.table).weight -/
def f86A : AFunc :=
{ nargs := 1, res := [.t 2], body :=
  (.seq
   (.reg none [⟨(some 2), .mv (.c (.int .i64 0)), none⟩])
   (.seq
    (.reg none [⟨(some 3), .mv (.c (.int .i64 1)), none⟩])
    (.seq
     (.seq
      (.reg none [⟨(some 6), .mv (.t 0), none⟩,
        ⟨(some 7), .len (.t 6), none⟩,
        ⟨(some 8), .mv (.c (.int .i64 0)), none⟩])
      (.block 0
       (.loop
        (.seq
         (.reg none [⟨(some 9), .bin .lss (.t 8) (.t 7), none⟩])
         (.seq
          (.cond (.t 9)
           .skip
           (.exit 0))
          (.seq
           (.block 1
            (.seq
             (.reg none [⟨(some 10), .iaddr 1 (.t 6) (.t 8), none⟩,
               ⟨(some 11), .load none (.t 10), none⟩,
               ⟨(some 5), .mv (.t 11), none⟩])
             (.reg none [⟨(some 12), .mv (.t 3), none⟩,
               ⟨(some 13), .mv (.t 5), none⟩,
               ⟨(some 14), .call 87 [(.t 13)], none⟩,
               ⟨(some 15), .bin .mul (.t 12) (.t 14), none⟩,
               ⟨(some 3), .mv (.t 15), none⟩])))
           (.reg none [⟨(some 16), .bin .add (.t 8) (.c (.int .i64 1)), none⟩,
             ⟨(some 8), .mv (.t 16), none⟩])))))))
     (.seq
      (.reg none [⟨(some 17), .mv (.t 3), none⟩,
        ⟨(some 2), .mv (.t 17), none⟩])
      .ret)))) }
theorem f86P : prepF C Try.f86 = some f86A := by kernel_rfl

/-- congou/counts.choose -/
def f87A : AFunc :=
{ nargs := 1, res := [.t 2], body :=
  (.seq
   (.reg none [⟨(some 2), .mv (.c (.int .i64 0)), none⟩])
   (.seq
    (.reg none [⟨(some 3), .mv (.c (.int .i64 1)), none⟩,
      ⟨(some 4), .mv (.c (.int .i64 0)), none⟩])
    (.seq
     (.seq
      (.reg none [⟨(some 8), .mv (.t 0), none⟩,
        ⟨(some 9), .len (.t 8), none⟩,
        ⟨(some 10), .mv (.c (.int .i64 0)), none⟩])
      (.block 0
       (.loop
        (.seq
         (.reg none [⟨(some 11), .bin .lss (.t 10) (.t 9), none⟩])
         (.seq
          (.cond (.t 11)
           .skip
           (.exit 0))
          (.seq
           (.block 1
            (.seq
             (.reg none [⟨(some 12), .iaddr 1 (.t 8) (.t 10), none⟩,
               ⟨(some 13), .load none (.t 12), none⟩,
               ⟨(some 6), .mv (.t 13), none⟩])
             (.seq
              (.reg none [⟨(some 7), .mv (.c (.int .i64 1)), none⟩])
              (.block 2
               (.loop
                (.seq
                 (.seq
                  (.reg none [⟨(some 14), .mv (.t 7), none⟩,
                    ⟨(some 15), .mv (.t 6), none⟩,
                    ⟨(some 16), .bin .leq (.t 14) (.t 15), none⟩])
                  (.cond (.t 16)
                   .skip
                   (.exit 2)))
                 (.seq
                  (.block 3
                   (.seq
                    (.reg none [⟨(some 19), .mv (.t 4), none⟩,
                      ⟨(some 20), .bin .add (.t 19) (.c (.int .i64 1)), none⟩,
                      ⟨(some 4), .mv (.t 20), none⟩])
                    (.reg none [⟨(some 21), .mv (.t 3), none⟩,
                      ⟨(some 22), .mv (.t 4), none⟩,
                      ⟨(some 23), .bin .mul (.t 21) (.t 22), none⟩,
                      ⟨(some 24), .mv (.t 7), none⟩,
                      ⟨(some 25), .bin .quo (.t 23) (.t 24), none⟩,
                      ⟨(some 3), .mv (.t 25), none⟩])))
                  (.reg none [⟨(some 17), .mv (.t 7), none⟩,
                    ⟨(some 18), .bin .add (.t 17) (.c (.int .i64 1)), none⟩,
                    ⟨(some 7), .mv (.t 18), none⟩]))))))))
           (.reg none [⟨(some 26), .bin .add (.t 10) (.c (.int .i64 1)), none⟩,
             ⟨(some 10), .mv (.t 26), none⟩])))))))
     (.seq
      (.reg none [⟨(some 27), .mv (.t 3), none⟩,
        ⟨(some 2), .mv (.t 27), none⟩])
      .ret)))) }
theorem f87P : prepF C Try.f87 = some f87A := by kernel_rfl

/-- congou/counts.gcd -/
def f99A : AFunc :=
{ nargs := 2, res := [.t 4], body :=
  (.seq
   (.reg none [⟨(some 4), .mv (.c (.int .i64 0)), none⟩])
   (.seq
    (.block 0
     (.loop
      (.seq
       (.seq
        (.reg none [⟨(some 5), .mv (.t 1), none⟩,
          ⟨(some 6), .bin .neq (.t 5) (.c (.int .i64 0)), none⟩])
        (.cond (.t 6)
         .skip
         (.exit 0)))
       (.block 1
        (.reg (some []) [⟨(some 7), .mv (.t 1), none⟩,
          ⟨(some 8), .mv (.t 0), none⟩,
          ⟨(some 9), .mv (.t 1), none⟩,
          ⟨(some 10), .bin .rem (.t 8) (.t 9), none⟩,
          ⟨(some 0), .mv (.t 7), none⟩,
          ⟨(some 1), .mv (.t 10), none⟩])))))
    (.seq
     (.reg none [⟨(some 11), .mv (.t 0), none⟩,
       ⟨(some 12), .mv (.t 0), none⟩,
       ⟨(some 13), .un .neg (.t 12), none⟩,
       ⟨(some 14), .mx [(.t 11), (.t 13)], none⟩,
       ⟨(some 4), .mv (.t 14), none⟩])
     .ret))) }
theorem f99P : prepF C Try.f99 = some f99A := by kernel_rfl

/-- (congou/counts.margins).all$1 -/
def f100A : AFunc :=
{ nargs := 8, res := [.t 11], body :=
  (.seq
   (.reg none [⟨(some 11), .mv (.c (.b false)), none⟩])
   (.seq
    (.block 0
     (.seq
      (.reg none [⟨(some 15), .mv (.t 0), none⟩,
        ⟨(some 16), .faddr 0 (.t 3), none⟩,
        ⟨(some 17), .load none (.t 16), none⟩,
        ⟨(some 18), .len (.t 17), none⟩,
        ⟨(some 19), .bin .eql (.t 15) (.t 18), none⟩,
        ⟨(some 14), .mv (.t 19), none⟩])
      (.cond (.t 14)
       (.seq
        (.reg (some []) [⟨(some 20), .load none (.t 4), none⟩,
          ⟨(some 21), .call 101 [(.t 20)], none⟩,
          ⟨(some 22), .bin .gtr (.t 21) (.c (.int .i64 0)), none⟩,
          ⟨(some 23), .mv (.t 22), none⟩,
          ⟨(some 24), .load none (.t 5), some (23, false)⟩,
          ⟨(some 25), .load none (.t 6), some (23, false)⟩,
          ⟨(some 26), .call 84 [(.t 25)], some (23, false)⟩,
          ⟨(some 27), .callv (.t 24) [(.t 26)], some (23, false)⟩,
          ⟨(some 28), .pick (.t 23) (.c (.b true)) (.t 27), none⟩,
          ⟨(some 11), .mv (.t 28), none⟩])
        .ret)
       (.seq
        (.reg none [⟨(some 30), .mv (.t 1), none⟩,
          ⟨(some 31), .faddr 1 (.t 3), none⟩,
          ⟨(some 32), .load none (.t 31), none⟩,
          ⟨(some 33), .len (.t 32), none⟩,
          ⟨(some 34), .bin .eql (.t 30) (.t 33), none⟩,
          ⟨(some 29), .mv (.t 34), none⟩])
        (.cond (.t 29)
         (.seq
          (.seq
           (.reg none [⟨(some 35), .mv (.t 2), none⟩,
             ⟨(some 36), .bin .gtr (.t 35) (.c (.int .i64 0)), none⟩])
           (.cond (.t 36)
            (.seq
             (.reg none [⟨(some 11), .mv (.c (.b true)), none⟩])
             .ret)
            .skip))
          (.seq
           (.seq
            (.reg none [⟨(some 37), .mv (.t 0), none⟩,
              ⟨(some 38), .bin .add (.t 37) (.c (.int .i64 1)), none⟩,
              ⟨(some 39), .faddr 0 (.t 3), none⟩,
              ⟨(some 40), .load none (.t 39), none⟩,
              ⟨(some 41), .len (.t 40), none⟩,
              ⟨(some 42), .bin .eql (.t 38) (.t 41), none⟩])
            (.cond (.t 42)
             (.seq
              (.reg none [⟨(some 43), .load none (.t 7), none⟩,
                ⟨(some 44), .mv (.t 0), none⟩,
                ⟨(some 45), .bin .add (.t 44) (.c (.int .i64 1)), none⟩,
                ⟨(some 46), .callv (.t 43) [(.t 45), (.c (.int .i64 0)), (.c (.int .i64 0))], none⟩,
                ⟨(some 11), .mv (.t 46), none⟩])
              .ret)
             .skip))
           (.seq
            (.reg (some []) [⟨(some 47), .load none (.t 7), none⟩,
              ⟨(some 48), .mv (.t 0), none⟩,
              ⟨(some 49), .bin .add (.t 48) (.c (.int .i64 1)), none⟩,
              ⟨(some 50), .faddr 0 (.t 3), none⟩,
              ⟨(some 51), .load none (.t 50), none⟩,
              ⟨(some 52), .mv (.t 0), none⟩,
              ⟨(some 53), .bin .add (.t 52) (.c (.int .i64 1)), none⟩,
              ⟨(some 54), .iaddr 1 (.t 51) (.t 53), none⟩,
              ⟨(some 55), .load none (.t 54), none⟩,
              ⟨(some 56), .callv (.t 47) [(.t 49), (.c (.int .i64 0)), (.t 55)], none⟩,
              ⟨(some 11), .mv (.t 56), none⟩])
            .ret)))
         .skip)))))
    (.seq
     (.seq
      (.reg none [⟨(some 57), .mv (.t 2), none⟩,
        ⟨(some 58), .load none (.t 4), none⟩,
        ⟨(some 59), .mv (.t 1), none⟩,
        ⟨(some 60), .iaddr 1 (.t 58) (.t 59), none⟩,
        ⟨(some 61), .load none (.t 60), none⟩,
        ⟨(some 62), .mn [(.t 57), (.t 61)], none⟩,
        ⟨(some 63), .bin .add (.t 62) (.c (.int .i64 1)), none⟩,
        ⟨(some 64), .mv (.c (.int .i64 0)), none⟩])
      (.block 1
       (.loop
        (.seq
         (.reg none [⟨(some 65), .bin .lss (.t 64) (.t 63), none⟩])
         (.seq
          (.cond (.t 65)
           .skip
           (.exit 1))
          (.seq
           (.block 2
            (.seq
             (.reg none [⟨(some 66), .mv (.t 64), none⟩,
               ⟨(some 12), .mv (.t 66), none⟩])
             (.seq
              (.reg none [⟨(some 67), .load none (.t 6), none⟩,
                ⟨(some 68), .mv (.t 0), none⟩,
                ⟨(some 69), .iaddr 1 (.t 67) (.t 68), none⟩,
                ⟨(some 70), .load none (.t 69), none⟩,
                ⟨(some 71), .mv (.t 1), none⟩,
                ⟨(some 72), .mv (.t 12), none⟩,
                ⟨(some 73), .iaddr 1 (.t 70) (.t 71), none⟩,
                ⟨none, .store 1 (.t 73) (.t 72), none⟩])
              (.seq
               (.reg none [⟨(some 74), .load none (.t 4), none⟩,
                 ⟨(some 75), .mv (.t 1), none⟩,
                 ⟨(some 76), .iaddr 1 (.t 74) (.t 75), none⟩,
                 ⟨(some 77), .load none (.t 76), none⟩,
                 ⟨(some 78), .mv (.t 12), none⟩,
                 ⟨(some 79), .bin .sub (.t 77) (.t 78), none⟩,
                 ⟨(some 80), .iaddr 1 (.t 74) (.t 75), none⟩,
                 ⟨none, .store 1 (.t 80) (.t 79), none⟩])
               (.seq
                (.reg none [⟨(some 81), .load none (.t 7), none⟩,
                  ⟨(some 82), .mv (.t 0), none⟩,
                  ⟨(some 83), .mv (.t 1), none⟩,
                  ⟨(some 84), .bin .add (.t 83) (.c (.int .i64 1)), none⟩,
                  ⟨(some 85), .mv (.t 2), none⟩,
                  ⟨(some 86), .mv (.t 12), none⟩,
                  ⟨(some 87), .bin .sub (.t 85) (.t 86), none⟩,
                  ⟨(some 88), .callv (.t 81) [(.t 82), (.t 84), (.t 87)], none⟩,
                  ⟨(some 13), .mv (.t 88), none⟩])
                (.seq
                 (.reg none [⟨(some 89), .load none (.t 4), none⟩,
                   ⟨(some 90), .mv (.t 1), none⟩,
                   ⟨(some 91), .iaddr 1 (.t 89) (.t 90), none⟩,
                   ⟨(some 92), .load none (.t 91), none⟩,
                   ⟨(some 93), .mv (.t 12), none⟩,
                   ⟨(some 94), .bin .add (.t 92) (.t 93), none⟩,
                   ⟨(some 95), .iaddr 1 (.t 89) (.t 90), none⟩,
                   ⟨none, .store 1 (.t 95) (.t 94), none⟩])
                 (.seq
                  (.reg none [⟨(some 96), .mv (.t 13), none⟩,
                    ⟨(some 97), .un .not (.t 96), none⟩])
                  (.cond (.t 97)
                   (.seq
                    (.reg none [⟨(some 11), .mv (.c (.b false)), none⟩])
                    .ret)
                   .skip))))))))
           (.reg none [⟨(some 98), .bin .add (.t 64) (.c (.int .i64 1)), none⟩,
             ⟨(some 64), .mv (.t 98), none⟩])))))))
     (.seq
      (.reg none [⟨(some 11), .mv (.c (.b true)), none⟩])
      .ret)))) }
theorem f100P : prepF C Try.f100 = some f100A := by kernel_rfl

/-- slices.Max[[]int,int] -/
def f101A : AFunc :=
{ nargs := 1, res := [.t 2], body :=
  (.seq
   (.reg none [⟨(some 2), .mv (.c (.int .i64 0)), none⟩])
   (.seq
    (.seq
     (.reg none [⟨(some 5), .mv (.t 0), none⟩,
       ⟨(some 6), .len (.t 5), none⟩,
       ⟨(some 7), .bin .lss (.t 6) (.c (.int .i64 1)), none⟩])
     (.cond (.t 7)
      (.reg none [⟨(some 8), .bad, none⟩,
        ⟨none, .bad, none⟩])
      .skip))
    (.seq
     (.reg none [⟨(some 9), .mv (.t 0), none⟩,
       ⟨(some 10), .iaddr 1 (.t 9) (.c (.int .i64 0)), none⟩,
       ⟨(some 11), .load none (.t 10), none⟩,
       ⟨(some 3), .mv (.t 11), none⟩])
     (.seq
      (.seq
       (.reg none [⟨(some 4), .mv (.c (.int .i64 1)), none⟩])
       (.block 0
        (.loop
         (.seq
          (.seq
           (.reg none [⟨(some 12), .mv (.t 4), none⟩,
             ⟨(some 13), .mv (.t 0), none⟩,
             ⟨(some 14), .len (.t 13), none⟩,
             ⟨(some 15), .bin .lss (.t 12) (.t 14), none⟩])
           (.cond (.t 15)
            .skip
            (.exit 0)))
          (.seq
           (.block 1
            (.reg none [⟨(some 18), .mv (.t 3), none⟩,
              ⟨(some 19), .mv (.t 0), none⟩,
              ⟨(some 20), .mv (.t 4), none⟩,
              ⟨(some 21), .iaddr 1 (.t 19) (.t 20), none⟩,
              ⟨(some 22), .load none (.t 21), none⟩,
              ⟨(some 23), .mx [(.t 18), (.t 22)], none⟩,
              ⟨(some 3), .mv (.t 23), none⟩]))
           (.reg none [⟨(some 16), .mv (.t 4), none⟩,
             ⟨(some 17), .bin .add (.t 16) (.c (.int .i64 1)), none⟩,
             ⟨(some 4), .mv (.t 17), none⟩]))))))
      (.seq
       (.reg none [⟨(some 24), .mv (.t 3), none⟩,
         ⟨(some 2), .mv (.t 24), none⟩])
       .ret))))) }
theorem f101P : prepF C Try.f101 = some f101A := by kernel_rfl

end Go.Proofs.Ytflekaacffdakaa
