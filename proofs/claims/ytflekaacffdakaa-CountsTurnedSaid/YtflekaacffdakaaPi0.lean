/- The abstract forms of the functions that are needed, each checked against the translation. No condition. -/
import Derived.Test.YtflekaacffdakaaAm1
import Derived.Test.YtflekaacffdakaaProg
namespace Go.Proofs.Ytflekaacffdakaa
open Go Go.AM Go.Proofs

/-- the seat's program; the types whose comparison is taken; the functions that may write to what is older -/
def kd : Nat → Kd := fun f => if [68, 80, 100].contains f then .wrt else if [23].contains f then .closed else .ro
noncomputable def C : Cfg := { P := Try.prog, eqT := fun t => if t == 37 then some 2 else if t == 88 then some 3 else none, kd := kd }
/-- congou/congoulaw06.CountsTurned -/
def f16A : AFunc :=
{ nargs := 3, res := [.t 6], body :=
  (.seq
   (.reg none [⟨(some 6), .mv (.c (.b false)), none⟩])
   (.seq
    (.reg none [⟨(some 35), .mv (.t 0), none⟩,
      ⟨(some 36), .call 20 [(.t 35)], none⟩,
      ⟨(some 37), .call 21 [(.t 36)], none⟩,
      ⟨(some 34), .mv (.t 37), none⟩,
      ⟨(some 38), .extr (.t 34) 0, none⟩,
      ⟨(some 39), .extr (.t 34) 1, none⟩,
      ⟨(some 7), .mv (.t 38), none⟩,
      ⟨(some 8), .mv (.t 39), none⟩])
    (.seq
     (.seq
      (.reg none [⟨(some 40), .mv (.t 8), none⟩,
        ⟨(some 41), .bin .neq (.t 40) (.c (.int .i64 0)), none⟩,
        ⟨(some 42), .mv (.t 41), none⟩,
        ⟨(some 43), .mv (.t 0), some (42, false)⟩,
        ⟨(some 44), .call 22 [(.t 43)], some (42, false)⟩,
        ⟨(some 45), .un .not (.t 44), some (42, false)⟩,
        ⟨(some 46), .pick (.t 42) (.c (.b true)) (.t 45), none⟩])
      (.cond (.t 46)
       (.seq
        (.reg none [⟨(some 47), .mv (.t 8), none⟩,
          ⟨(some 48), .bin .eql (.t 47) (.c (.int .i64 2)), none⟩,
          ⟨(some 49), .mv (.t 48), none⟩,
          ⟨(some 50), .call 23 [], some (49, true)⟩,
          ⟨(some 51), .pick (.t 49) (.t 50) (.c (.b false)), none⟩,
          ⟨(some 6), .mv (.t 51), none⟩])
        .ret)
       .skip))
     (.seq
      (.reg none [⟨(some 53), .mv (.t 7), none⟩,
        ⟨(some 54), .call 20 [(.t 53)], none⟩,
        ⟨(some 55), .call 21 [(.t 54)], none⟩,
        ⟨(some 52), .mv (.t 55), none⟩,
        ⟨(some 56), .extr (.t 52) 0, none⟩,
        ⟨(some 57), .extr (.t 52) 1, none⟩,
        ⟨(some 9), .mv (.t 56), none⟩,
        ⟨(some 8), .mv (.t 57), none⟩])
      (.seq
       (.seq
        (.reg none [⟨(some 58), .mv (.t 8), none⟩,
          ⟨(some 59), .bin .neq (.t 58) (.c (.int .i64 0)), none⟩,
          ⟨(some 60), .mv (.t 59), none⟩,
          ⟨(some 61), .mv (.t 9), some (60, false)⟩,
          ⟨(some 62), .mv (.t 0), some (60, false)⟩,
          ⟨(some 63), .call 26 [(.t 61), (.t 62)], some (60, false)⟩,
          ⟨(some 64), .un .not (.t 63), some (60, false)⟩,
          ⟨(some 65), .pick (.t 60) (.c (.b true)) (.t 64), none⟩,
          ⟨(some 66), .mv (.t 65), none⟩,
          ⟨(some 67), .mv (.t 7), some (66, false)⟩,
          ⟨(some 68), .call 22 [(.t 67)], some (66, false)⟩,
          ⟨(some 69), .un .not (.t 68), some (66, false)⟩,
          ⟨(some 70), .pick (.t 66) (.c (.b true)) (.t 69), none⟩])
        (.cond (.t 70)
         (.seq
          (.reg none [⟨(some 6), .mv (.c (.b false)), none⟩])
          .ret)
         .skip))
       (.seq
        (.reg none [⟨(some 71), .mv (.t 0), none⟩,
          ⟨(some 72), .call 20 [(.t 71)], none⟩,
          ⟨(some 73), .mv (.t 0), none⟩,
          ⟨(some 74), .call 20 [(.t 73)], none⟩,
          ⟨(some 10), .mv (.t 72), none⟩,
          ⟨(some 11), .mv (.t 74), none⟩])
        (.seq
         (.reg (some []) [⟨(some 75), .mv (.t 0), none⟩,
           ⟨(some 76), .len (.t 75), none⟩,
           ⟨(some 77), .conv .u64 (.t 76), none⟩,
           ⟨(some 78), .mv (.t 0), none⟩,
           ⟨(some 79), .iaddr 1 (.t 78) (.c (.int .i64 0)), none⟩,
           ⟨(some 80), .load none (.t 79), none⟩,
           ⟨(some 81), .len (.t 80), none⟩,
           ⟨(some 82), .conv .u64 (.t 81), none⟩,
           ⟨(some 12), .mv (.t 77), none⟩,
           ⟨(some 13), .mv (.t 82), none⟩])
         (.seq
          (.reg (some []) [⟨(some 83), .mv (.t 1), none⟩,
            ⟨(some 84), .conv .u64 (.t 83), none⟩,
            ⟨(some 85), .mv (.t 12), none⟩,
            ⟨(some 86), .bin .rem (.t 84) (.t 85), none⟩,
            ⟨(some 87), .mv (.t 2), none⟩,
            ⟨(some 88), .conv .u64 (.t 87), none⟩,
            ⟨(some 89), .mv (.t 12), none⟩,
            ⟨(some 90), .bin .rem (.t 88) (.t 89), none⟩,
            ⟨(some 14), .mv (.t 86), none⟩,
            ⟨(some 15), .mv (.t 90), none⟩])
          (.seq
           (.reg none [⟨(some 91), .mv (.t 10), none⟩,
             ⟨(some 92), .mv (.t 14), none⟩,
             ⟨(some 93), .iaddr 1 (.t 91) (.t 92), none⟩,
             ⟨(some 94), .load none (.t 93), none⟩,
             ⟨(some 16), .mv (.t 94), none⟩])
           (.seq
            (.reg none [⟨(some 95), .mv (.t 10), none⟩,
              ⟨(some 96), .mv (.t 14), none⟩,
              ⟨(some 97), .mv (.t 10), none⟩,
              ⟨(some 98), .mv (.t 15), none⟩,
              ⟨(some 99), .iaddr 1 (.t 97) (.t 98), none⟩,
              ⟨(some 100), .load none (.t 99), none⟩,
              ⟨(some 101), .iaddr 1 (.t 95) (.t 96), none⟩,
              ⟨none, .store 1 (.t 101) (.t 100), none⟩])
            (.seq
             (.reg none [⟨(some 102), .mv (.t 10), none⟩,
               ⟨(some 103), .mv (.t 15), none⟩,
               ⟨(some 104), .mv (.t 16), none⟩,
               ⟨(some 105), .iaddr 1 (.t 102) (.t 103), none⟩,
               ⟨none, .store 1 (.t 105) (.t 104), none⟩])
             (.seq
              (.reg (some []) [⟨(some 106), .mv (.t 1), none⟩,
                ⟨(some 107), .conv .u64 (.t 106), none⟩,
                ⟨(some 108), .mv (.t 13), none⟩,
                ⟨(some 109), .bin .rem (.t 107) (.t 108), none⟩,
                ⟨(some 110), .mv (.t 2), none⟩,
                ⟨(some 111), .conv .u64 (.t 110), none⟩,
                ⟨(some 112), .mv (.t 13), none⟩,
                ⟨(some 113), .bin .rem (.t 111) (.t 112), none⟩,
                ⟨(some 14), .mv (.t 109), none⟩,
                ⟨(some 15), .mv (.t 113), none⟩])
              (.seq
               (.seq
                (.reg none [⟨(some 114), .mv (.t 11), none⟩,
                  ⟨(some 115), .len (.t 114), none⟩,
                  ⟨(some 116), .mv (.c (.int .i64 0)), none⟩])
                (.block 0
                 (.loop
                  (.seq
                   (.reg none [⟨(some 117), .bin .lss (.t 116) (.t 115), none⟩])
                   (.seq
                    (.cond (.t 117)
                     .skip
                     (.exit 0))
                    (.seq
                     (.block 1
                      (.seq
                       (.reg none [⟨(some 118), .iaddr 1 (.t 114) (.t 116), none⟩,
                         ⟨(some 119), .load none (.t 118), none⟩,
                         ⟨(some 18), .mv (.t 119), none⟩])
                       (.seq
                        (.reg none [⟨(some 120), .mv (.t 18), none⟩,
                          ⟨(some 121), .mv (.t 14), none⟩,
                          ⟨(some 122), .iaddr 1 (.t 120) (.t 121), none⟩,
                          ⟨(some 123), .load none (.t 122), none⟩,
                          ⟨(some 19), .mv (.t 123), none⟩])
                        (.seq
                         (.reg none [⟨(some 124), .mv (.t 18), none⟩,
                           ⟨(some 125), .mv (.t 14), none⟩,
                           ⟨(some 126), .mv (.t 18), none⟩,
                           ⟨(some 127), .mv (.t 15), none⟩,
                           ⟨(some 128), .iaddr 1 (.t 126) (.t 127), none⟩,
                           ⟨(some 129), .load none (.t 128), none⟩,
                           ⟨(some 130), .iaddr 1 (.t 124) (.t 125), none⟩,
                           ⟨none, .store 1 (.t 130) (.t 129), none⟩])
                         (.reg none [⟨(some 131), .mv (.t 18), none⟩,
                           ⟨(some 132), .mv (.t 15), none⟩,
                           ⟨(some 133), .mv (.t 19), none⟩,
                           ⟨(some 134), .iaddr 1 (.t 131) (.t 132), none⟩,
                           ⟨none, .store 1 (.t 134) (.t 133), none⟩])))))
                     (.reg none [⟨(some 135), .bin .add (.t 116) (.c (.int .i64 1)), none⟩,
                       ⟨(some 116), .mv (.t 135), none⟩])))))))
               (.seq
                (.reg none [⟨(some 137), .mv (.t 0), none⟩,
                  ⟨(some 138), .call 20 [(.t 137)], none⟩,
                  ⟨(some 139), .call 49 [(.t 138)], none⟩,
                  ⟨(some 136), .mv (.t 139), none⟩,
                  ⟨(some 140), .extr (.t 136) 0, none⟩,
                  ⟨(some 141), .extr (.t 136) 1, none⟩,
                  ⟨(some 20), .alloc [(.int .i64 0), (.int .i64 0)], none⟩,
                  ⟨none, .store 2 (.t 20) (.t 140), none⟩,
                  ⟨(some 21), .mv (.t 141), none⟩])
                (.seq
                 (.reg none [⟨(some 143), .mv (.t 0), none⟩,
                   ⟨(some 144), .call 20 [(.t 143)], none⟩,
                   ⟨(some 145), .call 50 [(.t 144)], none⟩,
                   ⟨(some 142), .mv (.t 145), none⟩,
                   ⟨(some 146), .extr (.t 142) 0, none⟩,
                   ⟨(some 147), .extr (.t 142) 1, none⟩,
                   ⟨(some 22), .alloc [(.int .i64 0), (.int .i64 0)], none⟩,
                   ⟨none, .store 2 (.t 22) (.t 146), none⟩,
                   ⟨(some 23), .mv (.t 147), none⟩])
                 (.seq
                  (.reg none [⟨(some 149), .mv (.t 0), none⟩,
                    ⟨(some 150), .call 20 [(.t 149)], none⟩,
                    ⟨(some 151), .call 35 [(.t 150)], none⟩,
                    ⟨(some 148), .mv (.t 151), none⟩,
                    ⟨(some 152), .extr (.t 148) 0, none⟩,
                    ⟨(some 153), .extr (.t 148) 1, none⟩,
                    ⟨(some 24), .alloc [(.int .i64 0), (.int .i64 0)], none⟩,
                    ⟨none, .store 2 (.t 24) (.t 152), none⟩,
                    ⟨(some 25), .mv (.t 153), none⟩])
                  (.seq
                   (.seq
                    (.reg none [⟨(some 154), .mv (.t 7), none⟩,
                      ⟨(some 155), .mv (.t 10), none⟩,
                      ⟨(some 156), .mv (.t 11), none⟩,
                      ⟨(some 157), .bslice [.nils] 3 1 [(0, (.t 154)), (1, (.t 155)), (2, (.t 156))], none⟩,
                      ⟨(some 158), .len (.t 157), none⟩,
                      ⟨(some 159), .mv (.c (.int .i64 0)), none⟩])
                    (.block 2
                     (.loop
                      (.seq
                       (.reg none [⟨(some 160), .bin .lss (.t 159) (.t 158), none⟩])
                       (.seq
                        (.cond (.t 160)
                         .skip
                         (.exit 2))
                        (.seq
                         (.block 3
                          (.seq
                           (.reg none [⟨(some 161), .iaddr 1 (.t 157) (.t 159), none⟩,
                             ⟨(some 162), .load none (.t 161), none⟩,
                             ⟨(some 27), .mv (.t 162), none⟩])
                           (.seq
                            (.reg none [⟨(some 164), .mv (.t 27), none⟩,
                              ⟨(some 165), .call 20 [(.t 164)], none⟩,
                              ⟨(some 166), .call 49 [(.t 165)], none⟩,
                              ⟨(some 163), .mv (.t 166), none⟩,
                              ⟨(some 167), .extr (.t 163) 0, none⟩,
                              ⟨(some 168), .extr (.t 163) 1, none⟩,
                              ⟨(some 28), .alloc [(.int .i64 0), (.int .i64 0)], none⟩,
                              ⟨none, .store 2 (.t 28) (.t 167), none⟩,
                              ⟨(some 29), .mv (.t 168), none⟩])
                            (.seq
                             (.reg none [⟨(some 170), .mv (.t 27), none⟩,
                               ⟨(some 171), .call 20 [(.t 170)], none⟩,
                               ⟨(some 172), .call 50 [(.t 171)], none⟩,
                               ⟨(some 169), .mv (.t 172), none⟩,
                               ⟨(some 173), .extr (.t 169) 0, none⟩,
                               ⟨(some 174), .extr (.t 169) 1, none⟩,
                               ⟨(some 30), .alloc [(.int .i64 0), (.int .i64 0)], none⟩,
                               ⟨none, .store 2 (.t 30) (.t 173), none⟩,
                               ⟨(some 31), .mv (.t 174), none⟩])
                             (.seq
                              (.reg none [⟨(some 176), .mv (.t 27), none⟩,
                                ⟨(some 177), .call 20 [(.t 176)], none⟩,
                                ⟨(some 178), .call 35 [(.t 177)], none⟩,
                                ⟨(some 175), .mv (.t 178), none⟩,
                                ⟨(some 179), .extr (.t 175) 0, none⟩,
                                ⟨(some 180), .extr (.t 175) 1, none⟩,
                                ⟨(some 32), .alloc [(.int .i64 0), (.int .i64 0)], none⟩,
                                ⟨none, .store 2 (.t 32) (.t 179), none⟩,
                                ⟨(some 33), .mv (.t 180), none⟩])
                              (.seq
                               (.reg none [⟨(some 181), .load (some 2) (.t 28), none⟩,
                                 ⟨(some 182), .load (some 2) (.t 20), none⟩,
                                 ⟨(some 183), .aeq true 2 (.t 181) (.t 182), none⟩,
                                 ⟨(some 184), .mv (.t 183), none⟩,
                                 ⟨(some 185), .load (some 2) (.t 30), some (184, false)⟩,
                                 ⟨(some 186), .load (some 2) (.t 22), some (184, false)⟩,
                                 ⟨(some 187), .aeq true 2 (.t 185) (.t 186), some (184, false)⟩,
                                 ⟨(some 188), .pick (.t 184) (.c (.b true)) (.t 187), none⟩,
                                 ⟨(some 189), .mv (.t 188), none⟩,
                                 ⟨(some 190), .load (some 2) (.t 32), some (189, false)⟩,
                                 ⟨(some 191), .load (some 2) (.t 24), some (189, false)⟩,
                                 ⟨(some 192), .aeq true 2 (.t 190) (.t 191), some (189, false)⟩,
                                 ⟨(some 193), .pick (.t 189) (.c (.b true)) (.t 192), none⟩,
                                 ⟨(some 194), .mv (.t 193), none⟩,
                                 ⟨(some 195), .mv (.t 29), some (194, false)⟩,
                                 ⟨(some 196), .mv (.t 21), some (194, false)⟩,
                                 ⟨(some 197), .bin .neq (.t 195) (.t 196), some (194, false)⟩,
                                 ⟨(some 198), .pick (.t 194) (.c (.b true)) (.t 197), none⟩,
                                 ⟨(some 199), .mv (.t 198), none⟩,
                                 ⟨(some 200), .mv (.t 31), some (199, false)⟩,
                                 ⟨(some 201), .mv (.t 23), some (199, false)⟩,
                                 ⟨(some 202), .bin .neq (.t 200) (.t 201), some (199, false)⟩,
                                 ⟨(some 203), .pick (.t 199) (.c (.b true)) (.t 202), none⟩,
                                 ⟨(some 204), .mv (.t 203), none⟩,
                                 ⟨(some 205), .mv (.t 33), some (204, false)⟩,
                                 ⟨(some 206), .mv (.t 25), some (204, false)⟩,
                                 ⟨(some 207), .bin .neq (.t 205) (.t 206), some (204, false)⟩,
                                 ⟨(some 208), .pick (.t 204) (.c (.b true)) (.t 207), none⟩])
                               (.cond (.t 208)
                                (.seq
                                 (.reg none [⟨(some 6), .mv (.c (.b false)), none⟩])
                                 .ret)
                                .skip)))))))
                         (.reg none [⟨(some 209), .bin .add (.t 159) (.c (.int .i64 1)), none⟩,
                           ⟨(some 159), .mv (.t 209), none⟩])))))))
                   (.seq
                    (.reg none [⟨(some 210), .mv (.t 21), none⟩,
                      ⟨(some 211), .bin .eql (.t 210) (.c (.int .i64 0)), none⟩,
                      ⟨(some 212), .mv (.t 211), none⟩,
                      ⟨(some 213), .mv (.t 23), some (212, true)⟩,
                      ⟨(some 214), .bin .eql (.t 213) (.c (.int .i64 0)), some (212, true)⟩,
                      ⟨(some 215), .pick (.t 212) (.t 214) (.c (.b false)), none⟩,
                      ⟨(some 216), .mv (.t 215), none⟩,
                      ⟨(some 217), .call 23 [], some (216, true)⟩,
                      ⟨(some 218), .pick (.t 216) (.t 217) (.c (.b false)), none⟩,
                      ⟨(some 6), .mv (.t 218), none⟩])
                    .ret)))))))))))))))))) }
theorem f16P : prepF C Try.f16 = some f16A := by kernel_rfl

/-- congou/counts.Sums -/
def f19A : AFunc :=
{ nargs := 1, res := [.t 2, .t 3, .t 4], body :=
  (.seq
   (.reg none [⟨(some 2), .mv (.c .nils), none⟩,
     ⟨(some 3), .mv (.c .nils), none⟩,
     ⟨(some 4), .mv (.c (.int .i64 0)), none⟩])
   (.seq
    (.seq
     (.reg none [⟨(some 5), .mv (.t 0), none⟩,
       ⟨(some 6), .call 70 [(.t 5)], none⟩,
       ⟨(some 7), .un .not (.t 6), none⟩])
     (.cond (.t 7)
      (.seq
       (.reg none [⟨(some 2), .mv (.c .nils), none⟩,
         ⟨(some 3), .mv (.c .nils), none⟩,
         ⟨(some 4), .mv (.c (.int .i64 2)), none⟩])
       .ret)
      .skip))
    (.seq
     (.reg none [⟨(some 9), .mv (.t 0), none⟩,
       ⟨(some 10), .call 71 [(.t 9)], none⟩,
       ⟨(some 8), .mv (.t 10), none⟩,
       ⟨(some 11), .extr (.t 8) 0, none⟩,
       ⟨(some 12), .extr (.t 8) 1, none⟩,
       ⟨(some 2), .mv (.t 11), none⟩,
       ⟨(some 3), .mv (.t 12), none⟩])
     (.seq
      (.reg none [⟨(some 13), .mv (.t 2), none⟩,
        ⟨(some 14), .mv (.t 3), none⟩,
        ⟨(some 2), .mv (.t 13), none⟩,
        ⟨(some 3), .mv (.t 14), none⟩,
        ⟨(some 4), .mv (.c (.int .i64 0)), none⟩])
      .ret)))) }
theorem f19P : prepF C Try.f19 = some f19A := by kernel_rfl

/-- congou/congoulaw06.table -/
def f20A : AFunc :=
{ nargs := 1, res := [.t 2], body :=
  (.seq
   (.reg none [⟨(some 2), .mv (.c .nils), none⟩])
   (.seq
    (.reg none [⟨(some 3), .mv (.c .nils), none⟩])
    (.seq
     (.seq
      (.reg none [⟨(some 6), .mv (.t 0), none⟩,
        ⟨(some 7), .len (.t 6), none⟩,
        ⟨(some 8), .mv (.c (.int .i64 0)), none⟩])
      (.block 0
       (.loop
        (.seq
         (.reg none [⟨(some 9), .bin .lss (.t 8) (.t 7), none⟩])
         (.seq
          (.cond (.t 9)
           .skip
           (.exit 0))
          (.seq
           (.block 1
            (.seq
             (.reg none [⟨(some 10), .mv (.t 8), none⟩,
               ⟨(some 11), .iaddr 1 (.t 6) (.t 8), none⟩,
               ⟨(some 12), .load none (.t 11), none⟩,
               ⟨(some 4), .mv (.t 10), none⟩,
               ⟨(some 5), .mv (.t 12), none⟩])
             (.seq
              (.reg none [⟨(some 13), .mv (.t 4), none⟩,
                ⟨(some 14), .bin .lss (.t 13) (.c (.int .i64 6)), none⟩])
              (.cond (.t 14)
               (.reg none [⟨(some 15), .mv (.t 3), none⟩,
                 ⟨(some 16), .mv (.t 5), none⟩,
                 ⟨(some 17), .call 39 [(.t 16)], none⟩,
                 ⟨(some 18), .bslice [.nils] 1 1 [(0, (.t 17))], none⟩,
                 ⟨(some 19), .append 1 24 (.t 15) (.t 18), none⟩,
                 ⟨(some 3), .mv (.t 19), none⟩])
               .skip))))
           (.reg none [⟨(some 20), .bin .add (.t 8) (.c (.int .i64 1)), none⟩,
             ⟨(some 8), .mv (.t 20), none⟩])))))))
     (.seq
      (.reg none [⟨(some 21), .mv (.t 3), none⟩,
        ⟨(some 2), .mv (.t 21), none⟩])
      .ret)))) }
theorem f20P : prepF C Try.f20 = some f20A := by kernel_rfl

/-- congou/counts.Turn -/
def f21A : AFunc :=
{ nargs := 1, res := [.t 2, .t 3], body :=
  (.seq
   (.reg none [⟨(some 2), .mv (.c .nils), none⟩,
     ⟨(some 3), .mv (.c (.int .i64 0)), none⟩])
   (.seq
    (.seq
     (.reg none [⟨(some 9), .mv (.t 0), none⟩,
       ⟨(some 10), .call 70 [(.t 9)], none⟩,
       ⟨(some 11), .un .not (.t 10), none⟩])
     (.cond (.t 11)
      (.seq
       (.reg none [⟨(some 2), .mv (.c .nils), none⟩,
         ⟨(some 3), .mv (.c (.int .i64 2)), none⟩])
       .ret)
      .skip))
    (.seq
     (.reg none [⟨(some 12), .mv (.t 0), none⟩,
       ⟨(some 13), .iaddr 1 (.t 12) (.c (.int .i64 0)), none⟩,
       ⟨(some 14), .load none (.t 13), none⟩,
       ⟨(some 15), .len (.t 14), none⟩,
       ⟨(some 16), .mkslice 1 24 [.nils] (.t 15), none⟩,
       ⟨(some 4), .mv (.t 16), none⟩])
     (.seq
      (.seq
       (.reg none [⟨(some 17), .mv (.t 0), none⟩,
         ⟨(some 18), .len (.t 17), none⟩,
         ⟨(some 19), .mv (.c (.int .i64 0)), none⟩])
       (.block 0
        (.loop
         (.seq
          (.reg none [⟨(some 20), .bin .lss (.t 19) (.t 18), none⟩])
          (.seq
           (.cond (.t 20)
            .skip
            (.exit 0))
           (.seq
            (.block 1
             (.seq
              (.reg none [⟨(some 21), .iaddr 1 (.t 17) (.t 19), none⟩,
                ⟨(some 22), .load none (.t 21), none⟩,
                ⟨(some 6), .mv (.t 22), none⟩])
              (.seq
               (.reg none [⟨(some 23), .mv (.t 6), none⟩,
                 ⟨(some 24), .len (.t 23), none⟩,
                 ⟨(some 25), .mv (.c (.int .i64 0)), none⟩])
               (.block 2
                (.loop
                 (.seq
                  (.reg none [⟨(some 26), .bin .lss (.t 25) (.t 24), none⟩])
                  (.seq
                   (.cond (.t 26)
                    .skip
                    (.exit 2))
                   (.seq
                    (.block 3
                     (.seq
                      (.reg none [⟨(some 27), .mv (.t 25), none⟩,
                        ⟨(some 28), .iaddr 1 (.t 23) (.t 25), none⟩,
                        ⟨(some 29), .load none (.t 28), none⟩,
                        ⟨(some 7), .mv (.t 27), none⟩,
                        ⟨(some 8), .mv (.t 29), none⟩])
                      (.reg none [⟨(some 30), .mv (.t 4), none⟩,
                        ⟨(some 31), .mv (.t 7), none⟩,
                        ⟨(some 32), .mv (.t 4), none⟩,
                        ⟨(some 33), .mv (.t 7), none⟩,
                        ⟨(some 34), .iaddr 1 (.t 32) (.t 33), none⟩,
                        ⟨(some 35), .load none (.t 34), none⟩,
                        ⟨(some 36), .mv (.t 8), none⟩,
                        ⟨(some 37), .bslice [(.int .i64 0)] 1 1 [(0, (.t 36))], none⟩,
                        ⟨(some 38), .append 1 8 (.t 35) (.t 37), none⟩,
                        ⟨(some 39), .iaddr 1 (.t 30) (.t 31), none⟩,
                        ⟨none, .store 1 (.t 39) (.t 38), none⟩])))
                    (.reg none [⟨(some 40), .bin .add (.t 25) (.c (.int .i64 1)), none⟩,
                      ⟨(some 25), .mv (.t 40), none⟩])))))))))
            (.reg none [⟨(some 41), .bin .add (.t 19) (.c (.int .i64 1)), none⟩,
              ⟨(some 19), .mv (.t 41), none⟩])))))))
      (.seq
       (.reg none [⟨(some 42), .mv (.t 4), none⟩,
         ⟨(some 2), .mv (.t 42), none⟩,
         ⟨(some 3), .mv (.c (.int .i64 0)), none⟩])
       .ret))))) }
theorem f21P : prepF C Try.f21 = some f21A := by kernel_rfl

/-- congou/congouref06.Table -/
def f22A : AFunc :=
{ nargs := 1, res := [.t 2], body :=
  (.seq
   (.reg none [⟨(some 2), .mv (.c (.b false)), none⟩])
   (.seq
    (.reg none [⟨(some 3), .mv (.c (.int .i64 0)), none⟩])
    (.seq
     (.seq
      (.reg none [⟨(some 8), .mv (.t 0), none⟩,
        ⟨(some 9), .len (.t 8), none⟩,
        ⟨(some 10), .mv (.c (.int .i64 0)), none⟩])
      (.block 0
       (.loop
        (.seq
         (.reg none [⟨(some 11), .bin .lss (.t 10) (.t 9), none⟩])
         (.seq
          (.cond (.t 11)
           .skip
           (.exit 0))
          (.seq
           (.block 1
            (.seq
             (.reg none [⟨(some 12), .iaddr 1 (.t 8) (.t 10), none⟩,
               ⟨(some 13), .load none (.t 12), none⟩,
               ⟨(some 5), .mv (.t 13), none⟩])
             (.seq
              (.seq
               (.reg none [⟨(some 14), .mv (.t 5), none⟩,
                 ⟨(some 15), .len (.t 14), none⟩,
                 ⟨(some 16), .mv (.t 0), none⟩,
                 ⟨(some 17), .iaddr 1 (.t 16) (.c (.int .i64 0)), none⟩,
                 ⟨(some 18), .load none (.t 17), none⟩,
                 ⟨(some 19), .len (.t 18), none⟩,
                 ⟨(some 20), .bin .neq (.t 15) (.t 19), none⟩,
                 ⟨(some 21), .mv (.t 20), none⟩,
                 ⟨(some 22), .mv (.t 5), some (21, false)⟩,
                 ⟨(some 23), .len (.t 22), some (21, false)⟩,
                 ⟨(some 24), .bin .lss (.t 23) (.c (.int .i64 1)), some (21, false)⟩,
                 ⟨(some 25), .pick (.t 21) (.c (.b true)) (.t 24), none⟩,
                 ⟨(some 26), .mv (.t 25), none⟩,
                 ⟨(some 27), .mv (.t 5), some (26, false)⟩,
                 ⟨(some 28), .len (.t 27), some (26, false)⟩,
                 ⟨(some 29), .bin .gtr (.t 28) (.c (.int .i64 3)), some (26, false)⟩,
                 ⟨(some 30), .pick (.t 26) (.c (.b true)) (.t 29), none⟩])
               (.cond (.t 30)
                (.seq
                 (.reg none [⟨(some 2), .mv (.c (.b false)), none⟩])
                 .ret)
                .skip))
              (.seq
               (.reg none [⟨(some 31), .mv (.t 5), none⟩,
                 ⟨(some 32), .len (.t 31), none⟩,
                 ⟨(some 33), .mv (.c (.int .i64 0)), none⟩])
               (.block 2
                (.loop
                 (.seq
                  (.reg none [⟨(some 34), .bin .lss (.t 33) (.t 32), none⟩])
                  (.seq
                   (.cond (.t 34)
                    .skip
                    (.exit 2))
                   (.seq
                    (.block 3
                     (.seq
                      (.reg none [⟨(some 35), .iaddr 1 (.t 31) (.t 33), none⟩,
                        ⟨(some 36), .load none (.t 35), none⟩,
                        ⟨(some 7), .mv (.t 36), none⟩])
                      (.seq
                       (.seq
                        (.reg none [⟨(some 37), .mv (.t 7), none⟩,
                          ⟨(some 38), .bin .lss (.t 37) (.c (.int .i64 0)), none⟩,
                          ⟨(some 39), .mv (.t 38), none⟩,
                          ⟨(some 40), .mv (.t 7), some (39, false)⟩,
                          ⟨(some 41), .bin .gtr (.t 40) (.c (.int .i64 16)), some (39, false)⟩,
                          ⟨(some 42), .pick (.t 39) (.c (.b true)) (.t 41), none⟩])
                        (.cond (.t 42)
                         (.seq
                          (.reg none [⟨(some 2), .mv (.c (.b false)), none⟩])
                          .ret)
                         .skip))
                       (.reg none [⟨(some 43), .mv (.t 3), none⟩,
                         ⟨(some 44), .mv (.t 7), none⟩,
                         ⟨(some 45), .bin .add (.t 43) (.t 44), none⟩,
                         ⟨(some 3), .mv (.t 45), none⟩]))))
                    (.reg none [⟨(some 46), .bin .add (.t 33) (.c (.int .i64 1)), none⟩,
                      ⟨(some 33), .mv (.t 46), none⟩]))))))))))
           (.reg none [⟨(some 47), .bin .add (.t 10) (.c (.int .i64 1)), none⟩,
             ⟨(some 10), .mv (.t 47), none⟩])))))))
     (.seq
      (.reg none [⟨(some 48), .mv (.t 0), none⟩,
        ⟨(some 49), .len (.t 48), none⟩,
        ⟨(some 50), .bin .geq (.t 49) (.c (.int .i64 1)), none⟩,
        ⟨(some 51), .mv (.t 50), none⟩,
        ⟨(some 52), .mv (.t 0), some (51, true)⟩,
        ⟨(some 53), .len (.t 52), some (51, true)⟩,
        ⟨(some 54), .bin .leq (.t 53) (.c (.int .i64 3)), some (51, true)⟩,
        ⟨(some 55), .pick (.t 51) (.t 54) (.c (.b false)), none⟩,
        ⟨(some 56), .mv (.t 55), none⟩,
        ⟨(some 57), .mv (.t 3), some (56, true)⟩,
        ⟨(some 58), .bin .leq (.t 57) (.c (.int .i64 16)), some (56, true)⟩,
        ⟨(some 59), .pick (.t 56) (.t 58) (.c (.b false)), none⟩,
        ⟨(some 2), .mv (.t 59), none⟩])
      .ret)))) }
theorem f22P : prepF C Try.f22 = some f22A := by kernel_rfl

/-- congou/congoulaw06.awake -/
def f23A : AFunc :=
{ nargs := 0, res := [.t 0], body :=
  (.seq
   (.reg none [⟨(some 0), .mv (.c (.b false)), none⟩])
   (.seq
    (.reg none [⟨(some 5), .bslice [(.int .i64 0)] 2 1 [(0, (.c (.int .i64 1))), (1, (.c (.int .i64 2)))], none⟩,
      ⟨(some 6), .bslice [(.int .i64 0)] 2 1 [(0, (.c (.int .i64 3))), (1, (.c (.int .i64 4)))], none⟩,
      ⟨(some 7), .bslice [.nils] 2 1 [(0, (.t 5)), (1, (.t 6))], none⟩,
      ⟨(some 8), .call 19 [(.t 7)], none⟩,
      ⟨(some 4), .mv (.t 8), none⟩,
      ⟨(some 9), .extr (.t 4) 0, none⟩,
      ⟨(some 10), .extr (.t 4) 1, none⟩,
      ⟨(some 11), .extr (.t 4) 2, none⟩,
      ⟨(some 1), .mv (.t 9), none⟩,
      ⟨(some 2), .mv (.t 10), none⟩,
      ⟨(some 3), .mv (.t 11), none⟩])
    (.seq
     (.reg none [⟨(some 12), .mv (.t 3), none⟩,
       ⟨(some 13), .bin .eql (.t 12) (.c (.int .i64 0)), none⟩,
       ⟨(some 14), .mv (.t 13), none⟩,
       ⟨(some 15), .mv (.t 1), some (14, true)⟩,
       ⟨(some 16), .bslice [(.int .i64 0)] 2 1 [(0, (.c (.int .i64 3))), (1, (.c (.int .i64 7)))], some (14, true)⟩,
       ⟨(some 17), .call 25 [(.t 15), (.t 16)], some (14, true)⟩,
       ⟨(some 18), .pick (.t 14) (.t 17) (.c (.b false)), none⟩,
       ⟨(some 19), .mv (.t 18), none⟩,
       ⟨(some 20), .mv (.t 2), some (19, true)⟩,
       ⟨(some 21), .bslice [(.int .i64 0)] 2 1 [(0, (.c (.int .i64 4))), (1, (.c (.int .i64 6)))], some (19, true)⟩,
       ⟨(some 22), .call 25 [(.t 20), (.t 21)], some (19, true)⟩,
       ⟨(some 23), .pick (.t 19) (.t 22) (.c (.b false)), none⟩,
       ⟨(some 0), .mv (.t 23), none⟩])
     .ret))) }
theorem f23P : prepF C Try.f23 = some f23A := by kernel_rfl

/-- slices.Equal[[]int,int] -/
def f25A : AFunc :=
{ nargs := 2, res := [.t 4], body :=
  (.seq
   (.reg none [⟨(some 4), .mv (.c (.b false)), none⟩])
   (.seq
    (.seq
     (.reg none [⟨(some 6), .mv (.t 0), none⟩,
       ⟨(some 7), .len (.t 6), none⟩,
       ⟨(some 8), .mv (.t 1), none⟩,
       ⟨(some 9), .len (.t 8), none⟩,
       ⟨(some 10), .bin .neq (.t 7) (.t 9), none⟩])
     (.cond (.t 10)
      (.seq
       (.reg none [⟨(some 4), .mv (.c (.b false)), none⟩])
       .ret)
      .skip))
    (.seq
     (.seq
      (.reg none [⟨(some 11), .mv (.t 0), none⟩,
        ⟨(some 12), .len (.t 11), none⟩,
        ⟨(some 13), .mv (.c (.int .i64 0)), none⟩])
      (.block 0
       (.loop
        (.seq
         (.reg none [⟨(some 14), .bin .lss (.t 13) (.t 12), none⟩])
         (.seq
          (.cond (.t 14)
           .skip
           (.exit 0))
          (.seq
           (.block 1
            (.seq
             (.reg none [⟨(some 15), .mv (.t 13), none⟩,
               ⟨(some 5), .mv (.t 15), none⟩])
             (.seq
              (.reg (some []) [⟨(some 16), .mv (.t 0), none⟩,
                ⟨(some 17), .mv (.t 5), none⟩,
                ⟨(some 18), .iaddr 1 (.t 16) (.t 17), none⟩,
                ⟨(some 19), .load none (.t 18), none⟩,
                ⟨(some 20), .mv (.t 1), none⟩,
                ⟨(some 21), .mv (.t 5), none⟩,
                ⟨(some 22), .iaddr 1 (.t 20) (.t 21), none⟩,
                ⟨(some 23), .load none (.t 22), none⟩,
                ⟨(some 24), .bin .neq (.t 19) (.t 23), none⟩])
              (.cond (.t 24)
               (.seq
                (.reg none [⟨(some 4), .mv (.c (.b false)), none⟩])
                .ret)
               .skip))))
           (.reg none [⟨(some 25), .bin .add (.t 13) (.c (.int .i64 1)), none⟩,
             ⟨(some 13), .mv (.t 25), none⟩])))))))
     (.seq
      (.reg none [⟨(some 4), .mv (.c (.b true)), none⟩])
      .ret)))) }
theorem f25P : prepF C Try.f25 = some f25A := by kernel_rfl

/-- congou/congouref06.Same -/
def f26A : AFunc :=
{ nargs := 2, res := [.t 4], body :=
  (.seq
   (.reg none [⟨(some 4), .mv (.c (.b false)), none⟩])
   (.seq
    (.seq
     (.reg none [⟨(some 9), .mv (.t 0), none⟩,
       ⟨(some 10), .len (.t 9), none⟩,
       ⟨(some 11), .mv (.t 1), none⟩,
       ⟨(some 12), .len (.t 11), none⟩,
       ⟨(some 13), .bin .neq (.t 10) (.t 12), none⟩])
     (.cond (.t 13)
      (.seq
       (.reg none [⟨(some 4), .mv (.c (.b false)), none⟩])
       .ret)
      .skip))
    (.seq
     (.seq
      (.reg none [⟨(some 14), .mv (.t 0), none⟩,
        ⟨(some 15), .len (.t 14), none⟩,
        ⟨(some 16), .mv (.c (.int .i64 0)), none⟩])
      (.block 0
       (.loop
        (.seq
         (.reg none [⟨(some 17), .bin .lss (.t 16) (.t 15), none⟩])
         (.seq
          (.cond (.t 17)
           .skip
           (.exit 0))
          (.seq
           (.block 1
            (.seq
             (.reg none [⟨(some 18), .mv (.t 16), none⟩,
               ⟨(some 19), .iaddr 1 (.t 14) (.t 16), none⟩,
               ⟨(some 20), .load none (.t 19), none⟩,
               ⟨(some 5), .mv (.t 18), none⟩,
               ⟨(some 6), .mv (.t 20), none⟩])
             (.seq
              (.seq
               (.reg none [⟨(some 21), .mv (.t 6), none⟩,
                 ⟨(some 22), .len (.t 21), none⟩,
                 ⟨(some 23), .mv (.t 1), none⟩,
                 ⟨(some 24), .mv (.t 5), none⟩,
                 ⟨(some 25), .iaddr 1 (.t 23) (.t 24), none⟩,
                 ⟨(some 26), .load none (.t 25), none⟩,
                 ⟨(some 27), .len (.t 26), none⟩,
                 ⟨(some 28), .bin .neq (.t 22) (.t 27), none⟩])
               (.cond (.t 28)
                (.seq
                 (.reg none [⟨(some 4), .mv (.c (.b false)), none⟩])
                 .ret)
                .skip))
              (.seq
               (.reg none [⟨(some 29), .mv (.t 6), none⟩,
                 ⟨(some 30), .len (.t 29), none⟩,
                 ⟨(some 31), .mv (.c (.int .i64 0)), none⟩])
               (.block 2
                (.loop
                 (.seq
                  (.reg none [⟨(some 32), .bin .lss (.t 31) (.t 30), none⟩])
                  (.seq
                   (.cond (.t 32)
                    .skip
                    (.exit 2))
                   (.seq
                    (.block 3
                     (.seq
                      (.reg none [⟨(some 33), .mv (.t 31), none⟩,
                        ⟨(some 34), .iaddr 1 (.t 29) (.t 31), none⟩,
                        ⟨(some 35), .load none (.t 34), none⟩,
                        ⟨(some 7), .mv (.t 33), none⟩,
                        ⟨(some 8), .mv (.t 35), none⟩])
                      (.seq
                       (.reg none [⟨(some 36), .mv (.t 8), none⟩,
                         ⟨(some 37), .mv (.t 1), none⟩,
                         ⟨(some 38), .mv (.t 5), none⟩,
                         ⟨(some 39), .iaddr 1 (.t 37) (.t 38), none⟩,
                         ⟨(some 40), .load none (.t 39), none⟩,
                         ⟨(some 41), .mv (.t 7), none⟩,
                         ⟨(some 42), .iaddr 1 (.t 40) (.t 41), none⟩,
                         ⟨(some 43), .load none (.t 42), none⟩,
                         ⟨(some 44), .bin .neq (.t 36) (.t 43), none⟩])
                       (.cond (.t 44)
                        (.seq
                         (.reg none [⟨(some 4), .mv (.c (.b false)), none⟩])
                         .ret)
                        .skip))))
                    (.reg none [⟨(some 45), .bin .add (.t 31) (.c (.int .i64 1)), none⟩,
                      ⟨(some 31), .mv (.t 45), none⟩]))))))))))
           (.reg none [⟨(some 46), .bin .add (.t 16) (.c (.int .i64 1)), none⟩,
             ⟨(some 16), .mv (.t 46), none⟩])))))))
     (.seq
      (.reg none [⟨(some 4), .mv (.c (.b true)), none⟩])
      .ret)))) }
theorem f26P : prepF C Try.f26 = some f26A := by kernel_rfl

/-- congou/counts.Off -/
def f35A : AFunc :=
{ nargs := 1, res := [.c 2 (some 2), .t 3], body :=
  (.seq
   (.reg none [⟨(some 2), .alloc [(.int .i64 0), (.int .i64 0)], none⟩,
     ⟨(some 3), .mv (.c (.int .i64 0)), none⟩])
   (.seq
    (.seq
     (.reg none [⟨(some 16), .mv (.t 0), none⟩,
       ⟨(some 17), .call 70 [(.t 16)], none⟩,
       ⟨(some 18), .un .not (.t 17), none⟩])
     (.cond (.t 18)
      (.seq
       (.reg none [⟨(some 19), .build [(.int .i64 0), (.int .i64 0)] [], none⟩,
         ⟨none, .store 2 (.t 2) (.t 19), none⟩,
         ⟨(some 3), .mv (.c (.int .i64 2)), none⟩])
       .ret)
      .skip))
    (.seq
     (.reg none [⟨(some 21), .mv (.t 0), none⟩,
       ⟨(some 22), .call 71 [(.t 21)], none⟩,
       ⟨(some 20), .mv (.t 22), none⟩,
       ⟨(some 23), .extr (.t 20) 0, none⟩,
       ⟨(some 24), .extr (.t 20) 1, none⟩,
       ⟨(some 4), .mv (.t 23), none⟩,
       ⟨(some 5), .mv (.t 24), none⟩])
     (.seq
      (.seq
       (.reg none [⟨(some 25), .mv (.t 4), none⟩,
         ⟨(some 26), .call 75 [(.t 25)], none⟩,
         ⟨(some 27), .bin .eql (.t 26) (.c (.int .i64 0)), none⟩,
         ⟨(some 28), .mv (.t 27), none⟩,
         ⟨(some 29), .mv (.t 5), some (28, false)⟩,
         ⟨(some 30), .call 75 [(.t 29)], some (28, false)⟩,
         ⟨(some 31), .bin .eql (.t 30) (.c (.int .i64 0)), some (28, false)⟩,
         ⟨(some 32), .pick (.t 28) (.c (.b true)) (.t 31), none⟩])
       (.cond (.t 32)
        (.seq
         (.reg none [⟨(some 33), .build [(.int .i64 0), (.int .i64 0)] [], none⟩,
           ⟨none, .store 2 (.t 2) (.t 33), none⟩,
           ⟨(some 3), .mv (.c (.int .i64 5)), none⟩])
         .ret)
        .skip))
      (.seq
       (.reg none [⟨(some 6), .mv (.c (.int .i64 0)), none⟩])
       (.seq
        (.seq
         (.reg none [⟨(some 34), .mv (.t 4), none⟩,
           ⟨(some 35), .len (.t 34), none⟩,
           ⟨(some 36), .mv (.c (.int .i64 0)), none⟩])
         (.block 0
          (.loop
           (.seq
            (.reg none [⟨(some 37), .bin .lss (.t 36) (.t 35), none⟩])
            (.seq
             (.cond (.t 37)
              .skip
              (.exit 0))
             (.seq
              (.block 1
               (.seq
                (.reg none [⟨(some 38), .iaddr 1 (.t 34) (.t 36), none⟩,
                  ⟨(some 39), .load none (.t 38), none⟩,
                  ⟨(some 8), .mv (.t 39), none⟩])
                (.reg none [⟨(some 40), .mv (.t 6), none⟩,
                  ⟨(some 41), .mv (.t 8), none⟩,
                  ⟨(some 42), .bin .add (.t 40) (.t 41), none⟩,
                  ⟨(some 6), .mv (.t 42), none⟩])))
              (.reg none [⟨(some 43), .bin .add (.t 36) (.c (.int .i64 1)), none⟩,
                ⟨(some 36), .mv (.t 43), none⟩])))))))
        (.seq
         (.reg none [⟨(some 44), .call 73 [(.c (.int .i64 0)), (.c (.int .i64 1))], none⟩,
           ⟨(some 9), .alloc [(.int .i64 0), (.int .i64 0)], none⟩,
           ⟨none, .store 2 (.t 9) (.t 44), none⟩])
         (.seq
          (.seq
           (.reg none [⟨(some 45), .mv (.t 0), none⟩,
             ⟨(some 46), .len (.t 45), none⟩,
             ⟨(some 47), .mv (.c (.int .i64 0)), none⟩])
           (.block 2
            (.loop
             (.seq
              (.reg none [⟨(some 48), .bin .lss (.t 47) (.t 46), none⟩])
              (.seq
               (.cond (.t 48)
                .skip
                (.exit 2))
               (.seq
                (.block 3
                 (.seq
                  (.reg none [⟨(some 49), .mv (.t 47), none⟩,
                    ⟨(some 50), .iaddr 1 (.t 45) (.t 47), none⟩,
                    ⟨(some 51), .load none (.t 50), none⟩,
                    ⟨(some 10), .mv (.t 49), none⟩,
                    ⟨(some 11), .mv (.t 51), none⟩])
                  (.seq
                   (.reg none [⟨(some 52), .mv (.t 11), none⟩,
                     ⟨(some 53), .len (.t 52), none⟩,
                     ⟨(some 54), .mv (.c (.int .i64 0)), none⟩])
                   (.block 4
                    (.loop
                     (.seq
                      (.reg none [⟨(some 55), .bin .lss (.t 54) (.t 53), none⟩])
                      (.seq
                       (.cond (.t 55)
                        .skip
                        (.exit 4))
                       (.seq
                        (.block 5
                         (.seq
                          (.reg none [⟨(some 56), .mv (.t 54), none⟩,
                            ⟨(some 57), .iaddr 1 (.t 52) (.t 54), none⟩,
                            ⟨(some 58), .load none (.t 57), none⟩,
                            ⟨(some 12), .mv (.t 56), none⟩,
                            ⟨(some 13), .mv (.t 58), none⟩])
                          (.seq
                           (.reg (some []) [⟨(some 59), .mv (.t 4), none⟩,
                             ⟨(some 60), .mv (.t 10), none⟩,
                             ⟨(some 61), .iaddr 1 (.t 59) (.t 60), none⟩,
                             ⟨(some 62), .load none (.t 61), none⟩,
                             ⟨(some 63), .mv (.t 5), none⟩,
                             ⟨(some 64), .mv (.t 12), none⟩,
                             ⟨(some 65), .iaddr 1 (.t 63) (.t 64), none⟩,
                             ⟨(some 66), .load none (.t 65), none⟩,
                             ⟨(some 67), .bin .mul (.t 62) (.t 66), none⟩,
                             ⟨(some 14), .mv (.t 67), none⟩])
                           (.seq
                            (.reg none [⟨(some 68), .mv (.t 13), none⟩,
                              ⟨(some 69), .mv (.t 6), none⟩,
                              ⟨(some 70), .bin .mul (.t 68) (.t 69), none⟩,
                              ⟨(some 71), .mv (.t 14), none⟩,
                              ⟨(some 72), .bin .sub (.t 70) (.t 71), none⟩,
                              ⟨(some 15), .mv (.t 72), none⟩])
                            (.reg (some []) [⟨(some 73), .load (some 2) (.t 9), none⟩,
                              ⟨(some 74), .mv (.t 15), none⟩,
                              ⟨(some 75), .mv (.t 15), none⟩,
                              ⟨(some 76), .bin .mul (.t 74) (.t 75), none⟩,
                              ⟨(some 77), .mv (.t 14), none⟩,
                              ⟨(some 78), .mv (.t 6), none⟩,
                              ⟨(some 79), .bin .mul (.t 77) (.t 78), none⟩,
                              ⟨(some 80), .call 73 [(.t 76), (.t 79)], none⟩,
                              ⟨(some 81), .call 76 [(.t 73), (.t 80)], none⟩,
                              ⟨none, .store 2 (.t 9) (.t 81), none⟩])))))
                        (.reg none [⟨(some 82), .bin .add (.t 54) (.c (.int .i64 1)), none⟩,
                          ⟨(some 54), .mv (.t 82), none⟩])))))))))
                (.reg none [⟨(some 83), .bin .add (.t 47) (.c (.int .i64 1)), none⟩,
                  ⟨(some 47), .mv (.t 83), none⟩])))))))
          (.seq
           (.reg none [⟨(some 84), .load (some 2) (.t 9), none⟩,
             ⟨none, .store 2 (.t 2) (.t 84), none⟩,
             ⟨(some 3), .mv (.c (.int .i64 0)), none⟩])
           .ret))))))))) }
theorem f35P : prepF C Try.f35 = some f35A := by kernel_rfl

/-- congou/congoulaw06.list -/
def f39A : AFunc :=
{ nargs := 1, res := [.t 2], body :=
  (.seq
   (.reg none [⟨(some 2), .mv (.c .nils), none⟩])
   (.seq
    (.reg none [⟨(some 3), .mv (.t 0), none⟩,
      ⟨(some 4), .mv (.t 0), none⟩,
      ⟨(some 5), .len (.t 4), none⟩,
      ⟨(some 6), .mn [(.t 5), (.c (.int .i64 6))], none⟩,
      ⟨(some 7), .slice 1 (.t 3) none (some (.t 6)) none, none⟩,
      ⟨(some 8), .call 56 [(.t 7)], none⟩,
      ⟨(some 2), .mv (.t 8), none⟩])
    .ret)) }
theorem f39P : prepF C Try.f39 = some f39A := by kernel_rfl

/-- congou/counts.Chance -/
def f49A : AFunc :=
{ nargs := 1, res := [.c 2 (some 2), .t 3], body :=
  (.seq
   (.reg none [⟨(some 2), .alloc [(.int .i64 0), (.int .i64 0)], none⟩,
     ⟨(some 3), .mv (.c (.int .i64 0)), none⟩])
   (.seq
    (.seq
     (.reg none [⟨(some 4), .mv (.t 0), none⟩,
       ⟨(some 5), .call 70 [(.t 4)], none⟩,
       ⟨(some 6), .un .not (.t 5), none⟩])
     (.cond (.t 6)
      (.seq
       (.reg none [⟨(some 7), .build [(.int .i64 0), (.int .i64 0)] [], none⟩,
         ⟨none, .store 2 (.t 2) (.t 7), none⟩,
         ⟨(some 3), .mv (.c (.int .i64 2)), none⟩])
       .ret)
      .skip))
    (.seq
     (.reg none [⟨(some 8), .mv (.t 0), none⟩,
       ⟨(some 9), .call 86 [(.t 8)], none⟩,
       ⟨(some 10), .mv (.t 0), none⟩,
       ⟨(some 11), .call 82 [(.t 10)], none⟩,
       ⟨(some 12), .field 1 none (.t 11), none⟩,
       ⟨(some 13), .call 87 [(.t 12)], none⟩,
       ⟨(some 14), .call 73 [(.t 9), (.t 13)], none⟩,
       ⟨none, .store 2 (.t 2) (.t 14), none⟩,
       ⟨(some 3), .mv (.c (.int .i64 0)), none⟩])
     .ret))) }
theorem f49P : prepF C Try.f49 = some f49A := by kernel_rfl

/-- congou/counts.Tail -/
def f50A : AFunc :=
{ nargs := 1, res := [.c 2 (some 2), .t 3], body :=
  (.seq
   (.reg none [⟨(some 2), .alloc [(.int .i64 0), (.int .i64 0)], none⟩,
     ⟨(some 3), .mv (.c (.int .i64 0)), none⟩])
   (.seq
    (.seq
     (.reg none [⟨(some 8), .mv (.t 0), none⟩,
       ⟨(some 9), .call 70 [(.t 8)], none⟩,
       ⟨(some 10), .un .not (.t 9), none⟩])
     (.cond (.t 10)
      (.seq
       (.reg none [⟨(some 11), .build [(.int .i64 0), (.int .i64 0)] [], none⟩,
         ⟨none, .store 2 (.t 2) (.t 11), none⟩,
         ⟨(some 3), .mv (.c (.int .i64 2)), none⟩])
       .ret)
      .skip))
    (.seq
     (.reg none [⟨(some 12), .mv (.t 0), none⟩,
       ⟨(some 13), .call 86 [(.t 12)], none⟩,
       ⟨(some 4), .alloc [(.int .i64 0)], none⟩,
       ⟨none, .store 1 (.t 4) (.t 13), none⟩])
     (.seq
      (.reg none [⟨(some 5), .alloc [(.int .i64 0)], none⟩,
        ⟨none, .store 1 (.t 5) (.c (.int .i64 0)), none⟩])
      (.seq
       (.seq
        (.reg none [⟨(some 14), .mv (.t 0), none⟩,
          ⟨(some 15), .call 82 [(.t 14)], none⟩,
          ⟨(some 16), .mkfn 80 [(.t 15)] [], none⟩])
        (.block 0
         (.rangeF 32 (.t 16) [17]
          (.reg none [⟨(some 6), .mv (.t 17), none⟩])
          (.block 1
           (.seq
            (.reg none [⟨(some 18), .mv (.t 6), none⟩,
              ⟨(some 19), .call 86 [(.t 18)], none⟩,
              ⟨(some 7), .mv (.t 19), none⟩])
            (.seq
             (.reg none [⟨(some 20), .mv (.t 7), none⟩,
               ⟨(some 21), .load none (.t 4), none⟩,
               ⟨(some 22), .bin .leq (.t 20) (.t 21), none⟩])
             (.cond (.t 22)
              (.reg none [⟨(some 23), .load none (.t 5), none⟩,
                ⟨(some 24), .mv (.t 7), none⟩,
                ⟨(some 25), .bin .add (.t 23) (.t 24), none⟩,
                ⟨none, .store 1 (.t 5) (.t 25), none⟩])
              .skip)))))))
       (.seq
        (.reg (some []) [⟨(some 26), .load none (.t 5), none⟩,
          ⟨(some 27), .mv (.t 0), none⟩,
          ⟨(some 28), .call 82 [(.t 27)], none⟩,
          ⟨(some 29), .field 1 none (.t 28), none⟩,
          ⟨(some 30), .call 87 [(.t 29)], none⟩,
          ⟨(some 31), .call 73 [(.t 26), (.t 30)], none⟩,
          ⟨none, .store 2 (.t 2) (.t 31), none⟩,
          ⟨(some 3), .mv (.c (.int .i64 0)), none⟩])
        .ret)))))) }
theorem f50P : prepF C Try.f50 = some f50A := by kernel_rfl

/-- slices.Clone[[]int,int] -/
def f56A : AFunc :=
{ nargs := 1, res := [.t 2], body :=
  (.seq
   (.reg none [⟨(some 2), .mv (.c .nils), none⟩])
   (.seq
    (.seq
     (.reg none [⟨(some 3), .mv (.t 0), none⟩,
       ⟨(some 4), .seq false (.t 3) (.c .nils), none⟩])
     (.cond (.t 4)
      (.seq
       (.reg none [⟨(some 2), .mv (.c .nils), none⟩])
       .ret)
      .skip))
    (.seq
     (.reg none [⟨(some 5), .bslice [(.int .i64 0)] 0 1 [], none⟩,
       ⟨(some 6), .mv (.t 0), none⟩,
       ⟨(some 7), .append 1 8 (.t 5) (.t 6), none⟩,
       ⟨(some 2), .mv (.t 7), none⟩])
     .ret))) }
theorem f56P : prepF C Try.f56 = some f56A := by kernel_rfl

/-- (congou/counts.table).valid -/
def f70A : AFunc :=
{ nargs := 1, res := [.t 2], body :=
  (.seq
   (.reg none [⟨(some 2), .mv (.c (.b false)), none⟩])
   (.seq
    (.seq
     (.reg none [⟨(some 8), .mv (.t 0), none⟩,
       ⟨(some 9), .len (.t 8), none⟩,
       ⟨(some 10), .bin .lss (.t 9) (.c (.int .i64 1)), none⟩,
       ⟨(some 11), .mv (.t 10), none⟩,
       ⟨(some 12), .mv (.t 0), some (11, false)⟩,
       ⟨(some 13), .len (.t 12), some (11, false)⟩,
       ⟨(some 14), .bin .gtr (.t 13) (.c (.int .i64 3)), some (11, false)⟩,
       ⟨(some 15), .pick (.t 11) (.c (.b true)) (.t 14), none⟩])
     (.cond (.t 15)
      (.seq
       (.reg none [⟨(some 2), .mv (.c (.b false)), none⟩])
       .ret)
      .skip))
    (.seq
     (.reg none [⟨(some 3), .mv (.c (.int .i64 0)), none⟩])
     (.seq
      (.seq
       (.reg none [⟨(some 16), .mv (.t 0), none⟩,
         ⟨(some 17), .len (.t 16), none⟩,
         ⟨(some 18), .mv (.c (.int .i64 0)), none⟩])
       (.block 0
        (.loop
         (.seq
          (.reg none [⟨(some 19), .bin .lss (.t 18) (.t 17), none⟩])
          (.seq
           (.cond (.t 19)
            .skip
            (.exit 0))
           (.seq
            (.block 1
             (.seq
              (.reg none [⟨(some 20), .iaddr 1 (.t 16) (.t 18), none⟩,
                ⟨(some 21), .load none (.t 20), none⟩,
                ⟨(some 5), .mv (.t 21), none⟩])
              (.seq
               (.seq
                (.reg none [⟨(some 22), .mv (.t 5), none⟩,
                  ⟨(some 23), .len (.t 22), none⟩,
                  ⟨(some 24), .bin .lss (.t 23) (.c (.int .i64 1)), none⟩,
                  ⟨(some 25), .mv (.t 24), none⟩,
                  ⟨(some 26), .mv (.t 5), some (25, false)⟩,
                  ⟨(some 27), .len (.t 26), some (25, false)⟩,
                  ⟨(some 28), .bin .gtr (.t 27) (.c (.int .i64 3)), some (25, false)⟩,
                  ⟨(some 29), .pick (.t 25) (.c (.b true)) (.t 28), none⟩,
                  ⟨(some 30), .mv (.t 29), none⟩,
                  ⟨(some 31), .mv (.t 5), some (30, false)⟩,
                  ⟨(some 32), .len (.t 31), some (30, false)⟩,
                  ⟨(some 33), .mv (.t 0), some (30, false)⟩,
                  ⟨(some 34), .iaddr 1 (.t 33) (.c (.int .i64 0)), some (30, false)⟩,
                  ⟨(some 35), .load none (.t 34), some (30, false)⟩,
                  ⟨(some 36), .len (.t 35), some (30, false)⟩,
                  ⟨(some 37), .bin .neq (.t 32) (.t 36), some (30, false)⟩,
                  ⟨(some 38), .pick (.t 30) (.c (.b true)) (.t 37), none⟩,
                  ⟨(some 39), .mv (.t 38), none⟩,
                  ⟨(some 40), .mv (.t 5), some (39, false)⟩,
                  ⟨(some 41), .call 79 [(.t 40)], some (39, false)⟩,
                  ⟨(some 42), .un .not (.t 41), some (39, false)⟩,
                  ⟨(some 43), .pick (.t 39) (.c (.b true)) (.t 42), none⟩])
                (.cond (.t 43)
                 (.seq
                  (.reg none [⟨(some 2), .mv (.c (.b false)), none⟩])
                  .ret)
                 .skip))
               (.seq
                (.reg none [⟨(some 44), .mv (.t 5), none⟩,
                  ⟨(some 45), .len (.t 44), none⟩,
                  ⟨(some 46), .mv (.c (.int .i64 0)), none⟩])
                (.block 2
                 (.loop
                  (.seq
                   (.reg none [⟨(some 47), .bin .lss (.t 46) (.t 45), none⟩])
                   (.seq
                    (.cond (.t 47)
                     .skip
                     (.exit 2))
                    (.seq
                     (.block 3
                      (.seq
                       (.reg none [⟨(some 48), .iaddr 1 (.t 44) (.t 46), none⟩,
                         ⟨(some 49), .load none (.t 48), none⟩,
                         ⟨(some 7), .mv (.t 49), none⟩])
                       (.reg none [⟨(some 50), .mv (.t 3), none⟩,
                         ⟨(some 51), .mv (.t 7), none⟩,
                         ⟨(some 52), .bin .add (.t 50) (.t 51), none⟩,
                         ⟨(some 3), .mv (.t 52), none⟩])))
                     (.reg none [⟨(some 53), .bin .add (.t 46) (.c (.int .i64 1)), none⟩,
                       ⟨(some 46), .mv (.t 53), none⟩]))))))))))
            (.reg none [⟨(some 54), .bin .add (.t 18) (.c (.int .i64 1)), none⟩,
              ⟨(some 18), .mv (.t 54), none⟩])))))))
      (.seq
       (.reg none [⟨(some 55), .mv (.t 3), none⟩,
         ⟨(some 56), .bin .leq (.t 55) (.c (.int .i64 16)), none⟩,
         ⟨(some 2), .mv (.t 56), none⟩])
       .ret))))) }
theorem f70P : prepF C Try.f70 = some f70A := by kernel_rfl

/-- (congou/counts.table).sums -/
def f71A : AFunc :=
{ nargs := 1, res := [.t 2, .t 3], body :=
  (.seq
   (.reg none [⟨(some 2), .mv (.c .nils), none⟩,
     ⟨(some 3), .mv (.c .nils), none⟩])
   (.seq
    (.reg none [⟨(some 9), .mv (.t 0), none⟩,
      ⟨(some 10), .iaddr 1 (.t 9) (.c (.int .i64 0)), none⟩,
      ⟨(some 11), .load none (.t 10), none⟩,
      ⟨(some 12), .len (.t 11), none⟩,
      ⟨(some 13), .mkslice 1 8 [(.int .i64 0)] (.t 12), none⟩,
      ⟨(some 3), .mv (.t 13), none⟩])
    (.seq
     (.seq
      (.reg none [⟨(some 14), .mv (.t 0), none⟩,
        ⟨(some 15), .len (.t 14), none⟩,
        ⟨(some 16), .mv (.c (.int .i64 0)), none⟩])
      (.block 0
       (.loop
        (.seq
         (.reg none [⟨(some 17), .bin .lss (.t 16) (.t 15), none⟩])
         (.seq
          (.cond (.t 17)
           .skip
           (.exit 0))
          (.seq
           (.block 1
            (.seq
             (.reg none [⟨(some 18), .iaddr 1 (.t 14) (.t 16), none⟩,
               ⟨(some 19), .load none (.t 18), none⟩,
               ⟨(some 5), .mv (.t 19), none⟩])
             (.seq
              (.reg none [⟨(some 6), .mv (.c (.int .i64 0)), none⟩])
              (.seq
               (.seq
                (.reg none [⟨(some 20), .mv (.t 5), none⟩,
                  ⟨(some 21), .len (.t 20), none⟩,
                  ⟨(some 22), .mv (.c (.int .i64 0)), none⟩])
                (.block 2
                 (.loop
                  (.seq
                   (.reg none [⟨(some 23), .bin .lss (.t 22) (.t 21), none⟩])
                   (.seq
                    (.cond (.t 23)
                     .skip
                     (.exit 2))
                    (.seq
                     (.block 3
                      (.seq
                       (.reg none [⟨(some 24), .mv (.t 22), none⟩,
                         ⟨(some 25), .iaddr 1 (.t 20) (.t 22), none⟩,
                         ⟨(some 26), .load none (.t 25), none⟩,
                         ⟨(some 7), .mv (.t 24), none⟩,
                         ⟨(some 8), .mv (.t 26), none⟩])
                       (.seq
                        (.reg none [⟨(some 27), .mv (.t 6), none⟩,
                          ⟨(some 28), .mv (.t 8), none⟩,
                          ⟨(some 29), .bin .add (.t 27) (.t 28), none⟩,
                          ⟨(some 6), .mv (.t 29), none⟩])
                        (.reg none [⟨(some 30), .mv (.t 3), none⟩,
                          ⟨(some 31), .mv (.t 7), none⟩,
                          ⟨(some 32), .iaddr 1 (.t 30) (.t 31), none⟩,
                          ⟨(some 33), .load none (.t 32), none⟩,
                          ⟨(some 34), .mv (.t 8), none⟩,
                          ⟨(some 35), .bin .add (.t 33) (.t 34), none⟩,
                          ⟨(some 36), .iaddr 1 (.t 30) (.t 31), none⟩,
                          ⟨none, .store 1 (.t 36) (.t 35), none⟩]))))
                     (.reg none [⟨(some 37), .bin .add (.t 22) (.c (.int .i64 1)), none⟩,
                       ⟨(some 22), .mv (.t 37), none⟩])))))))
               (.reg none [⟨(some 38), .mv (.t 2), none⟩,
                 ⟨(some 39), .mv (.t 6), none⟩,
                 ⟨(some 40), .bslice [(.int .i64 0)] 1 1 [(0, (.t 39))], none⟩,
                 ⟨(some 41), .append 1 8 (.t 38) (.t 40), none⟩,
                 ⟨(some 2), .mv (.t 41), none⟩])))))
           (.reg none [⟨(some 42), .bin .add (.t 16) (.c (.int .i64 1)), none⟩,
             ⟨(some 16), .mv (.t 42), none⟩])))))))
     (.seq
      (.reg none [⟨(some 43), .mv (.t 2), none⟩,
        ⟨(some 44), .mv (.t 3), none⟩,
        ⟨(some 2), .mv (.t 43), none⟩,
        ⟨(some 3), .mv (.t 44), none⟩])
      .ret)))) }
theorem f71P : prepF C Try.f71 = some f71A := by kernel_rfl

/-- congou/counts.frac -/
def f73A : AFunc :=
{ nargs := 2, res := [.c 4 (some 2)], body :=
  (.seq
   (.reg none [⟨(some 4), .alloc [(.int .i64 0), (.int .i64 0)], none⟩])
   (.seq
    (.reg none [⟨(some 6), .mv (.t 0), none⟩,
      ⟨(some 7), .mv (.t 1), none⟩,
      ⟨(some 8), .call 99 [(.t 6), (.t 7)], none⟩,
      ⟨(some 5), .mv (.t 8), none⟩])
    (.seq
     (.reg (some []) [⟨(some 9), .mv (.t 0), none⟩,
       ⟨(some 10), .mv (.t 5), none⟩,
       ⟨(some 11), .bin .quo (.t 9) (.t 10), none⟩,
       ⟨(some 12), .mv (.t 1), none⟩,
       ⟨(some 13), .mv (.t 5), none⟩,
       ⟨(some 14), .bin .quo (.t 12) (.t 13), none⟩,
       ⟨(some 15), .build [(.int .i64 0), (.int .i64 0)] [(0, 1, (.t 11)), (1, 1, (.t 14))], none⟩,
       ⟨none, .store 2 (.t 4) (.t 15), none⟩])
     .ret))) }
theorem f73P : prepF C Try.f73 = some f73A := by kernel_rfl

/-- slices.Min[[]int,int] -/
def f75A : AFunc :=
{ nargs := 1, res := [.t 2], body :=
  (.seq
   (.reg none [⟨(some 2), .mv (.c (.int .i64 0)), none⟩])
   (.seq
    (.seq
     (.reg none [⟨(some 5), .mv (.t 0), none⟩,
       ⟨(some 6), .len (.t 5), none⟩,
       ⟨(some 7), .bin .lss (.t 6) (.c (.int .i64 1)), none⟩])
     (.cond (.t 7)
      (.reg none [⟨(some 8), .bad, none⟩,
        ⟨none, .bad, none⟩])
      .skip))
    (.seq
     (.reg none [⟨(some 9), .mv (.t 0), none⟩,
       ⟨(some 10), .iaddr 1 (.t 9) (.c (.int .i64 0)), none⟩,
       ⟨(some 11), .load none (.t 10), none⟩,
       ⟨(some 3), .mv (.t 11), none⟩])
     (.seq
      (.seq
       (.reg none [⟨(some 4), .mv (.c (.int .i64 1)), none⟩])
       (.block 0
        (.loop
         (.seq
          (.seq
           (.reg none [⟨(some 12), .mv (.t 4), none⟩,
             ⟨(some 13), .mv (.t 0), none⟩,
             ⟨(some 14), .len (.t 13), none⟩,
             ⟨(some 15), .bin .lss (.t 12) (.t 14), none⟩])
           (.cond (.t 15)
            .skip
            (.exit 0)))
          (.seq
           (.block 1
            (.reg none [⟨(some 18), .mv (.t 3), none⟩,
              ⟨(some 19), .mv (.t 0), none⟩,
              ⟨(some 20), .mv (.t 4), none⟩,
              ⟨(some 21), .iaddr 1 (.t 19) (.t 20), none⟩,
              ⟨(some 22), .load none (.t 21), none⟩,
              ⟨(some 23), .mn [(.t 18), (.t 22)], none⟩,
              ⟨(some 3), .mv (.t 23), none⟩]))
           (.reg none [⟨(some 16), .mv (.t 4), none⟩,
             ⟨(some 17), .bin .add (.t 16) (.c (.int .i64 1)), none⟩,
             ⟨(some 4), .mv (.t 17), none⟩]))))))
      (.seq
       (.reg none [⟨(some 24), .mv (.t 3), none⟩,
         ⟨(some 2), .mv (.t 24), none⟩])
       .ret))))) }
theorem f75P : prepF C Try.f75 = some f75A := by kernel_rfl

/-- congou/counts.plus -/
def f76A : AFunc :=
{ nargs := 2, res := [.c 4 (some 2)], body :=
  (.seq
   (.reg none [⟨(some 2), .box (.t 0), none⟩,
     ⟨(some 3), .box (.t 1), none⟩,
     ⟨(some 4), .alloc [(.int .i64 0), (.int .i64 0)], none⟩])
   (.seq
    (.reg none [⟨(some 6), .faddr 1 (.t 2), none⟩,
      ⟨(some 7), .load none (.t 6), none⟩,
      ⟨(some 8), .faddr 1 (.t 3), none⟩,
      ⟨(some 9), .load none (.t 8), none⟩,
      ⟨(some 10), .call 99 [(.t 7), (.t 9)], none⟩,
      ⟨(some 5), .mv (.t 10), none⟩])
    (.seq
     (.reg (some []) [⟨(some 11), .faddr 0 (.t 2), none⟩,
       ⟨(some 12), .load none (.t 11), none⟩,
       ⟨(some 13), .faddr 1 (.t 3), none⟩,
       ⟨(some 14), .load none (.t 13), none⟩,
       ⟨(some 15), .mv (.t 5), none⟩,
       ⟨(some 16), .bin .quo (.t 14) (.t 15), none⟩,
       ⟨(some 17), .bin .mul (.t 12) (.t 16), none⟩,
       ⟨(some 18), .faddr 0 (.t 3), none⟩,
       ⟨(some 19), .load none (.t 18), none⟩,
       ⟨(some 20), .faddr 1 (.t 2), none⟩,
       ⟨(some 21), .load none (.t 20), none⟩,
       ⟨(some 22), .mv (.t 5), none⟩,
       ⟨(some 23), .bin .quo (.t 21) (.t 22), none⟩,
       ⟨(some 24), .bin .mul (.t 19) (.t 23), none⟩,
       ⟨(some 25), .bin .add (.t 17) (.t 24), none⟩,
       ⟨(some 26), .faddr 1 (.t 2), none⟩,
       ⟨(some 27), .load none (.t 26), none⟩,
       ⟨(some 28), .mv (.t 5), none⟩,
       ⟨(some 29), .bin .quo (.t 27) (.t 28), none⟩,
       ⟨(some 30), .faddr 1 (.t 3), none⟩,
       ⟨(some 31), .load none (.t 30), none⟩,
       ⟨(some 32), .bin .mul (.t 29) (.t 31), none⟩,
       ⟨(some 33), .call 73 [(.t 25), (.t 32)], none⟩,
       ⟨none, .store 2 (.t 4) (.t 33), none⟩])
     .ret))) }
theorem f76P : prepF C Try.f76 = some f76A := by kernel_rfl

/-- congou/counts.isSums -/
def f79A : AFunc :=
{ nargs := 1, res := [.t 2], body :=
  (.seq
   (.reg none [⟨(some 2), .mv (.c (.b false)), none⟩])
   (.seq
    (.reg none [⟨(some 3), .mv (.c (.int .i64 0)), none⟩])
    (.seq
     (.seq
      (.reg none [⟨(some 6), .mv (.t 0), none⟩,
        ⟨(some 7), .len (.t 6), none⟩,
        ⟨(some 8), .mv (.c (.int .i64 0)), none⟩])
      (.block 0
       (.loop
        (.seq
         (.reg none [⟨(some 9), .bin .lss (.t 8) (.t 7), none⟩])
         (.seq
          (.cond (.t 9)
           .skip
           (.exit 0))
          (.seq
           (.block 1
            (.seq
             (.reg none [⟨(some 10), .iaddr 1 (.t 6) (.t 8), none⟩,
               ⟨(some 11), .load none (.t 10), none⟩,
               ⟨(some 5), .mv (.t 11), none⟩])
             (.seq
              (.seq
               (.reg none [⟨(some 12), .mv (.t 5), none⟩,
                 ⟨(some 13), .bin .lss (.t 12) (.c (.int .i64 0)), none⟩,
                 ⟨(some 14), .mv (.t 13), none⟩,
                 ⟨(some 15), .mv (.t 5), some (14, false)⟩,
                 ⟨(some 16), .bin .gtr (.t 15) (.c (.int .i64 16)), some (14, false)⟩,
                 ⟨(some 17), .pick (.t 14) (.c (.b true)) (.t 16), none⟩])
               (.cond (.t 17)
                (.seq
                 (.reg none [⟨(some 2), .mv (.c (.b false)), none⟩])
                 .ret)
                .skip))
              (.reg none [⟨(some 18), .mv (.t 3), none⟩,
                ⟨(some 19), .mv (.t 5), none⟩,
                ⟨(some 20), .bin .add (.t 18) (.t 19), none⟩,
                ⟨(some 3), .mv (.t 20), none⟩]))))
           (.reg none [⟨(some 21), .bin .add (.t 8) (.c (.int .i64 1)), none⟩,
             ⟨(some 8), .mv (.t 21), none⟩])))))))
     (.seq
      (.reg none [⟨(some 22), .mv (.t 3), none⟩,
        ⟨(some 23), .bin .leq (.t 22) (.c (.int .i64 16)), none⟩,
        ⟨(some 2), .mv (.t 23), none⟩])
      .ret)))) }
theorem f79P : prepF C Try.f79 = some f79A := by kernel_rfl

/-- (congou/counts.margins).all -/
def f80A : AFunc :=
{ nargs := 2, res := [], body :=
  (.seq
   (.reg none [⟨(some 2), .box (.t 0), none⟩,
     ⟨(some 3), .box (.t 1), none⟩])
   (.seq
    (.reg none [⟨(some 8), .faddr 0 (.t 2), none⟩,
      ⟨(some 9), .load none (.t 8), none⟩,
      ⟨(some 10), .len (.t 9), none⟩,
      ⟨(some 11), .mkslice 1 24 [.nils] (.t 10), none⟩,
      ⟨(some 4), .alloc [.nils], none⟩,
      ⟨none, .store 1 (.t 4) (.t 11), none⟩])
    (.seq
     (.seq
      (.reg none [⟨(some 12), .load none (.t 4), none⟩,
        ⟨(some 13), .len (.t 12), none⟩,
        ⟨(some 14), .mv (.c (.int .i64 0)), none⟩])
      (.block 0
       (.loop
        (.seq
         (.reg none [⟨(some 15), .bin .lss (.t 14) (.t 13), none⟩])
         (.seq
          (.cond (.t 15)
           .skip
           (.exit 0))
          (.seq
           (.block 1
            (.seq
             (.reg none [⟨(some 16), .mv (.t 14), none⟩,
               ⟨(some 5), .mv (.t 16), none⟩])
             (.reg (some []) [⟨(some 17), .load none (.t 4), none⟩,
               ⟨(some 18), .mv (.t 5), none⟩,
               ⟨(some 19), .faddr 1 (.t 2), none⟩,
               ⟨(some 20), .load none (.t 19), none⟩,
               ⟨(some 21), .len (.t 20), none⟩,
               ⟨(some 22), .mkslice 1 8 [(.int .i64 0)] (.t 21), none⟩,
               ⟨(some 23), .iaddr 1 (.t 17) (.t 18), none⟩,
               ⟨none, .store 1 (.t 23) (.t 22), none⟩])))
           (.reg none [⟨(some 24), .bin .add (.t 14) (.c (.int .i64 1)), none⟩,
             ⟨(some 14), .mv (.t 24), none⟩])))))))
     (.seq
      (.reg none [⟨(some 25), .faddr 1 (.t 2), none⟩,
        ⟨(some 26), .load none (.t 25), none⟩,
        ⟨(some 27), .call 56 [(.t 26)], none⟩,
        ⟨(some 6), .alloc [.nils], none⟩,
        ⟨none, .store 1 (.t 6) (.t 27), none⟩])
      (.seq
       (.reg none [⟨(some 7), .alloc [.nilf], none⟩])
       (.seq
        (.reg none [⟨(some 28), .mkfn 100 [] [(.t 2), (.t 6), (.t 3), (.t 4), (.t 7)], none⟩,
          ⟨none, .store 1 (.t 7) (.t 28), none⟩])
        (.reg (some []) [⟨(some 29), .load none (.t 7), none⟩,
          ⟨(some 30), .faddr 0 (.t 2), none⟩,
          ⟨(some 31), .load none (.t 30), none⟩,
          ⟨(some 32), .iaddr 1 (.t 31) (.c (.int .i64 0)), none⟩,
          ⟨(some 33), .load none (.t 32), none⟩,
          ⟨(some 34), .callv (.t 29) [(.c (.int .i64 0)), (.c (.int .i64 0)), (.t 33)], none⟩]))))))) }
theorem f80P : prepF C Try.f80 = some f80A := by kernel_rfl

/-- (congou/counts.table).family -/
def f82A : AFunc :=
{ nargs := 1, res := [.c 2 (some 2)], body :=
  (.seq
   (.reg none [⟨(some 2), .alloc [.nils, .nils], none⟩])
   (.seq
    (.reg none [⟨(some 6), .mv (.t 0), none⟩,
      ⟨(some 7), .call 71 [(.t 6)], none⟩,
      ⟨(some 5), .mv (.t 7), none⟩,
      ⟨(some 8), .extr (.t 5) 0, none⟩,
      ⟨(some 9), .extr (.t 5) 1, none⟩,
      ⟨(some 3), .mv (.t 8), none⟩,
      ⟨(some 4), .mv (.t 9), none⟩])
    (.seq
     (.reg none [⟨(some 10), .mv (.t 3), none⟩,
       ⟨(some 11), .mv (.t 4), none⟩,
       ⟨(some 12), .build [.nils, .nils] [(0, 1, (.t 10)), (1, 1, (.t 11))], none⟩,
       ⟨none, .store 2 (.t 2) (.t 12), none⟩])
     .ret))) }
theorem f82P : prepF C Try.f82 = some f82A := by kernel_rfl

/-- (congou/counts.table).clone -/
def f84A : AFunc :=
{ nargs := 1, res := [.t 2], body :=
  (.seq
   (.reg none [⟨(some 2), .mv (.c .nils), none⟩])
   (.seq
    (.reg none [⟨(some 3), .mv (.c .nils), none⟩])
    (.seq
     (.seq
      (.reg none [⟨(some 6), .mv (.t 0), none⟩,
        ⟨(some 7), .len (.t 6), none⟩,
        ⟨(some 8), .mv (.c (.int .i64 0)), none⟩])
      (.block 0
       (.loop
        (.seq
         (.reg none [⟨(some 9), .bin .lss (.t 8) (.t 7), none⟩])
         (.seq
          (.cond (.t 9)
           .skip
           (.exit 0))
          (.seq
           (.block 1
            (.seq
             (.reg none [⟨(some 10), .iaddr 1 (.t 6) (.t 8), none⟩,
               ⟨(some 11), .load none (.t 10), none⟩,
               ⟨(some 5), .mv (.t 11), none⟩])
             (.reg none [⟨(some 12), .mv (.t 3), none⟩,
               ⟨(some 13), .mv (.t 5), none⟩,
               ⟨(some 14), .call 56 [(.t 13)], none⟩,
               ⟨(some 15), .bslice [.nils] 1 1 [(0, (.t 14))], none⟩,
               ⟨(some 16), .append 1 24 (.t 12) (.t 15), none⟩,
               ⟨(some 3), .mv (.t 16), none⟩])))
           (.reg none [⟨(some 17), .bin .add (.t 8) (.c (.int .i64 1)), none⟩,
             ⟨(some 8), .mv (.t 17), none⟩])))))))
     (.seq
      (.reg none [⟨(some 18), .mv (.t 3), none⟩,
        ⟨(some 2), .mv (.t 18), none⟩])
      .ret)))) }
theorem f84P : prepF C Try.f84 = some f84A := by kernel_rfl

/-- (congou/counts.table).weight -/
def f86A : AFunc :=
{ nargs := 1, res := [.t 2], body :=
  (.seq
   (.reg none [⟨(some 2), .mv (.c (.int .i64 0)), none⟩])
   (.seq
    (.reg none [⟨(some 3), .mv (.c (.int .i64 1)), none⟩])
    (.seq
     (.seq
      (.reg none [⟨(some 6), .mv (.t 0), none⟩,
        ⟨(some 7), .len (.t 6), none⟩,
        ⟨(some 8), .mv (.c (.int .i64 0)), none⟩])
      (.block 0
       (.loop
        (.seq
         (.reg none [⟨(some 9), .bin .lss (.t 8) (.t 7), none⟩])
         (.seq
          (.cond (.t 9)
           .skip
           (.exit 0))
          (.seq
           (.block 1
            (.seq
             (.reg none [⟨(some 10), .iaddr 1 (.t 6) (.t 8), none⟩,
               ⟨(some 11), .load none (.t 10), none⟩,
               ⟨(some 5), .mv (.t 11), none⟩])
             (.reg none [⟨(some 12), .mv (.t 3), none⟩,
               ⟨(some 13), .mv (.t 5), none⟩,
               ⟨(some 14), .call 87 [(.t 13)], none⟩,
               ⟨(some 15), .bin .mul (.t 12) (.t 14), none⟩,
               ⟨(some 3), .mv (.t 15), none⟩])))
           (.reg none [⟨(some 16), .bin .add (.t 8) (.c (.int .i64 1)), none⟩,
             ⟨(some 8), .mv (.t 16), none⟩])))))))
     (.seq
      (.reg none [⟨(some 17), .mv (.t 3), none⟩,
        ⟨(some 2), .mv (.t 17), none⟩])
      .ret)))) }
theorem f86P : prepF C Try.f86 = some f86A := by kernel_rfl

/-- congou/counts.choose -/
def f87A : AFunc :=
{ nargs := 1, res := [.t 2], body :=
  (.seq
   (.reg none [⟨(some 2), .mv (.c (.int .i64 0)), none⟩])
   (.seq
    (.reg none [⟨(some 3), .mv (.c (.int .i64 1)), none⟩,
      ⟨(some 4), .mv (.c (.int .i64 0)), none⟩])
    (.seq
     (.seq
      (.reg none [⟨(some 8), .mv (.t 0), none⟩,
        ⟨(some 9), .len (.t 8), none⟩,
        ⟨(some 10), .mv (.c (.int .i64 0)), none⟩])
      (.block 0
       (.loop
        (.seq
         (.reg none [⟨(some 11), .bin .lss (.t 10) (.t 9), none⟩])
         (.seq
          (.cond (.t 11)
           .skip
           (.exit 0))
          (.seq
           (.block 1
            (.seq
             (.reg none [⟨(some 12), .iaddr 1 (.t 8) (.t 10), none⟩,
               ⟨(some 13), .load none (.t 12), none⟩,
               ⟨(some 6), .mv (.t 13), none⟩])
             (.seq
              (.reg none [⟨(some 7), .mv (.c (.int .i64 1)), none⟩])
              (.block 2
               (.loop
                (.seq
                 (.seq
                  (.reg none [⟨(some 14), .mv (.t 7), none⟩,
                    ⟨(some 15), .mv (.t 6), none⟩,
                    ⟨(some 16), .bin .leq (.t 14) (.t 15), none⟩])
                  (.cond (.t 16)
                   .skip
                   (.exit 2)))
                 (.seq
                  (.block 3
                   (.seq
                    (.reg none [⟨(some 19), .mv (.t 4), none⟩,
                      ⟨(some 20), .bin .add (.t 19) (.c (.int .i64 1)), none⟩,
                      ⟨(some 4), .mv (.t 20), none⟩])
                    (.reg none [⟨(some 21), .mv (.t 3), none⟩,
                      ⟨(some 22), .mv (.t 4), none⟩,
                      ⟨(some 23), .bin .mul (.t 21) (.t 22), none⟩,
                      ⟨(some 24), .mv (.t 7), none⟩,
                      ⟨(some 25), .bin .quo (.t 23) (.t 24), none⟩,
                      ⟨(some 3), .mv (.t 25), none⟩])))
                  (.reg none [⟨(some 17), .mv (.t 7), none⟩,
                    ⟨(some 18), .bin .add (.t 17) (.c (.int .i64 1)), none⟩,
                    ⟨(some 7), .mv (.t 18), none⟩]))))))))
           (.reg none [⟨(some 26), .bin .add (.t 10) (.c (.int .i64 1)), none⟩,
             ⟨(some 10), .mv (.t 26), none⟩])))))))
     (.seq
      (.reg none [⟨(some 27), .mv (.t 3), none⟩,
        ⟨(some 2), .mv (.t 27), none⟩])
      .ret)))) }
theorem f87P : prepF C Try.f87 = some f87A := by kernel_rfl

/-- congou/counts.gcd -/
def f99A : AFunc :=
{ nargs := 2, res := [.t 4], body :=
  (.seq
   (.reg none [⟨(some 4), .mv (.c (.int .i64 0)), none⟩])
   (.seq
    (.block 0
     (.loop
      (.seq
       (.seq
        (.reg none [⟨(some 5), .mv (.t 1), none⟩,
          ⟨(some 6), .bin .neq (.t 5) (.c (.int .i64 0)), none⟩])
        (.cond (.t 6)
         .skip
         (.exit 0)))
       (.block 1
        (.reg (some []) [⟨(some 7), .mv (.t 1), none⟩,
          ⟨(some 8), .mv (.t 0), none⟩,
          ⟨(some 9), .mv (.t 1), none⟩,
          ⟨(some 10), .bin .rem (.t 8) (.t 9), none⟩,
          ⟨(some 0), .mv (.t 7), none⟩,
          ⟨(some 1), .mv (.t 10), none⟩])))))
    (.seq
     (.reg none [⟨(some 11), .mv (.t 0), none⟩,
       ⟨(some 12), .mv (.t 0), none⟩,
       ⟨(some 13), .un .neg (.t 12), none⟩,
       ⟨(some 14), .mx [(.t 11), (.t 13)], none⟩,
       ⟨(some 4), .mv (.t 14), none⟩])
     .ret))) }
theorem f99P : prepF C Try.f99 = some f99A := by kernel_rfl

/-- (congou/counts.margins).all$1 -/
def f100A : AFunc :=
{ nargs := 8, res := [.t 11], body :=
  (.seq
   (.reg none [⟨(some 11), .mv (.c (.b false)), none⟩])
   (.seq
    (.block 0
     (.seq
      (.reg none [⟨(some 15), .mv (.t 0), none⟩,
        ⟨(some 16), .faddr 0 (.t 3), none⟩,
        ⟨(some 17), .load none (.t 16), none⟩,
        ⟨(some 18), .len (.t 17), none⟩,
        ⟨(some 19), .bin .eql (.t 15) (.t 18), none⟩,
        ⟨(some 14), .mv (.t 19), none⟩])
      (.cond (.t 14)
       (.seq
        (.reg (some []) [⟨(some 20), .load none (.t 4), none⟩,
          ⟨(some 21), .call 101 [(.t 20)], none⟩,
          ⟨(some 22), .bin .gtr (.t 21) (.c (.int .i64 0)), none⟩,
          ⟨(some 23), .mv (.t 22), none⟩,
          ⟨(some 24), .load none (.t 5), some (23, false)⟩,
          ⟨(some 25), .load none (.t 6), some (23, false)⟩,
          ⟨(some 26), .call 84 [(.t 25)], some (23, false)⟩,
          ⟨(some 27), .callv (.t 24) [(.t 26)], some (23, false)⟩,
          ⟨(some 28), .pick (.t 23) (.c (.b true)) (.t 27), none⟩,
          ⟨(some 11), .mv (.t 28), none⟩])
        .ret)
       (.seq
        (.reg none [⟨(some 30), .mv (.t 1), none⟩,
          ⟨(some 31), .faddr 1 (.t 3), none⟩,
          ⟨(some 32), .load none (.t 31), none⟩,
          ⟨(some 33), .len (.t 32), none⟩,
          ⟨(some 34), .bin .eql (.t 30) (.t 33), none⟩,
          ⟨(some 29), .mv (.t 34), none⟩])
        (.cond (.t 29)
         (.seq
          (.seq
           (.reg none [⟨(some 35), .mv (.t 2), none⟩,
             ⟨(some 36), .bin .gtr (.t 35) (.c (.int .i64 0)), none⟩])
           (.cond (.t 36)
            (.seq
             (.reg none [⟨(some 11), .mv (.c (.b true)), none⟩])
             .ret)
            .skip))
          (.seq
           (.seq
            (.reg none [⟨(some 37), .mv (.t 0), none⟩,
              ⟨(some 38), .bin .add (.t 37) (.c (.int .i64 1)), none⟩,
              ⟨(some 39), .faddr 0 (.t 3), none⟩,
              ⟨(some 40), .load none (.t 39), none⟩,
              ⟨(some 41), .len (.t 40), none⟩,
              ⟨(some 42), .bin .eql (.t 38) (.t 41), none⟩])
            (.cond (.t 42)
             (.seq
              (.reg none [⟨(some 43), .load none (.t 7), none⟩,
                ⟨(some 44), .mv (.t 0), none⟩,
                ⟨(some 45), .bin .add (.t 44) (.c (.int .i64 1)), none⟩,
                ⟨(some 46), .callv (.t 43) [(.t 45), (.c (.int .i64 0)), (.c (.int .i64 0))], none⟩,
                ⟨(some 11), .mv (.t 46), none⟩])
              .ret)
             .skip))
           (.seq
            (.reg (some []) [⟨(some 47), .load none (.t 7), none⟩,
              ⟨(some 48), .mv (.t 0), none⟩,
              ⟨(some 49), .bin .add (.t 48) (.c (.int .i64 1)), none⟩,
              ⟨(some 50), .faddr 0 (.t 3), none⟩,
              ⟨(some 51), .load none (.t 50), none⟩,
              ⟨(some 52), .mv (.t 0), none⟩,
              ⟨(some 53), .bin .add (.t 52) (.c (.int .i64 1)), none⟩,
              ⟨(some 54), .iaddr 1 (.t 51) (.t 53), none⟩,
              ⟨(some 55), .load none (.t 54), none⟩,
              ⟨(some 56), .callv (.t 47) [(.t 49), (.c (.int .i64 0)), (.t 55)], none⟩,
              ⟨(some 11), .mv (.t 56), none⟩])
            .ret)))
         .skip)))))
    (.seq
     (.seq
      (.reg none [⟨(some 57), .mv (.t 2), none⟩,
        ⟨(some 58), .load none (.t 4), none⟩,
        ⟨(some 59), .mv (.t 1), none⟩,
        ⟨(some 60), .iaddr 1 (.t 58) (.t 59), none⟩,
        ⟨(some 61), .load none (.t 60), none⟩,
        ⟨(some 62), .mn [(.t 57), (.t 61)], none⟩,
        ⟨(some 63), .bin .add (.t 62) (.c (.int .i64 1)), none⟩,
        ⟨(some 64), .mv (.c (.int .i64 0)), none⟩])
      (.block 1
       (.loop
        (.seq
         (.reg none [⟨(some 65), .bin .lss (.t 64) (.t 63), none⟩])
         (.seq
          (.cond (.t 65)
           .skip
           (.exit 1))
          (.seq
           (.block 2
            (.seq
             (.reg none [⟨(some 66), .mv (.t 64), none⟩,
               ⟨(some 12), .mv (.t 66), none⟩])
             (.seq
              (.reg none [⟨(some 67), .load none (.t 6), none⟩,
                ⟨(some 68), .mv (.t 0), none⟩,
                ⟨(some 69), .iaddr 1 (.t 67) (.t 68), none⟩,
                ⟨(some 70), .load none (.t 69), none⟩,
                ⟨(some 71), .mv (.t 1), none⟩,
                ⟨(some 72), .mv (.t 12), none⟩,
                ⟨(some 73), .iaddr 1 (.t 70) (.t 71), none⟩,
                ⟨none, .store 1 (.t 73) (.t 72), none⟩])
              (.seq
               (.reg none [⟨(some 74), .load none (.t 4), none⟩,
                 ⟨(some 75), .mv (.t 1), none⟩,
                 ⟨(some 76), .iaddr 1 (.t 74) (.t 75), none⟩,
                 ⟨(some 77), .load none (.t 76), none⟩,
                 ⟨(some 78), .mv (.t 12), none⟩,
                 ⟨(some 79), .bin .sub (.t 77) (.t 78), none⟩,
                 ⟨(some 80), .iaddr 1 (.t 74) (.t 75), none⟩,
                 ⟨none, .store 1 (.t 80) (.t 79), none⟩])
               (.seq
                (.reg none [⟨(some 81), .load none (.t 7), none⟩,
                  ⟨(some 82), .mv (.t 0), none⟩,
                  ⟨(some 83), .mv (.t 1), none⟩,
                  ⟨(some 84), .bin .add (.t 83) (.c (.int .i64 1)), none⟩,
                  ⟨(some 85), .mv (.t 2), none⟩,
                  ⟨(some 86), .mv (.t 12), none⟩,
                  ⟨(some 87), .bin .sub (.t 85) (.t 86), none⟩,
                  ⟨(some 88), .callv (.t 81) [(.t 82), (.t 84), (.t 87)], none⟩,
                  ⟨(some 13), .mv (.t 88), none⟩])
                (.seq
                 (.reg none [⟨(some 89), .load none (.t 4), none⟩,
                   ⟨(some 90), .mv (.t 1), none⟩,
                   ⟨(some 91), .iaddr 1 (.t 89) (.t 90), none⟩,
                   ⟨(some 92), .load none (.t 91), none⟩,
                   ⟨(some 93), .mv (.t 12), none⟩,
                   ⟨(some 94), .bin .add (.t 92) (.t 93), none⟩,
                   ⟨(some 95), .iaddr 1 (.t 89) (.t 90), none⟩,
                   ⟨none, .store 1 (.t 95) (.t 94), none⟩])
                 (.seq
                  (.reg none [⟨(some 96), .mv (.t 13), none⟩,
                    ⟨(some 97), .un .not (.t 96), none⟩])
                  (.cond (.t 97)
                   (.seq
                    (.reg none [⟨(some 11), .mv (.c (.b false)), none⟩])
                    .ret)
                   .skip))))))))
           (.reg none [⟨(some 98), .bin .add (.t 64) (.c (.int .i64 1)), none⟩,
             ⟨(some 64), .mv (.t 98), none⟩])))))))
     (.seq
      (.reg none [⟨(some 11), .mv (.c (.b true)), none⟩])
      .ret)))) }
theorem f100P : prepF C Try.f100 = some f100A := by kernel_rfl

/-- slices.Max[[]int,int] -/
def f101A : AFunc :=
{ nargs := 1, res := [.t 2], body :=
  (.seq
   (.reg none [⟨(some 2), .mv (.c (.int .i64 0)), none⟩])
   (.seq
    (.seq
     (.reg none [⟨(some 5), .mv (.t 0), none⟩,
       ⟨(some 6), .len (.t 5), none⟩,
       ⟨(some 7), .bin .lss (.t 6) (.c (.int .i64 1)), none⟩])
     (.cond (.t 7)
      (.reg none [⟨(some 8), .bad, none⟩,
        ⟨none, .bad, none⟩])
      .skip))
    (.seq
     (.reg none [⟨(some 9), .mv (.t 0), none⟩,
       ⟨(some 10), .iaddr 1 (.t 9) (.c (.int .i64 0)), none⟩,
       ⟨(some 11), .load none (.t 10), none⟩,
       ⟨(some 3), .mv (.t 11), none⟩])
     (.seq
      (.seq
       (.reg none [⟨(some 4), .mv (.c (.int .i64 1)), none⟩])
       (.block 0
        (.loop
         (.seq
          (.seq
           (.reg none [⟨(some 12), .mv (.t 4), none⟩,
             ⟨(some 13), .mv (.t 0), none⟩,
             ⟨(some 14), .len (.t 13), none⟩,
             ⟨(some 15), .bin .lss (.t 12) (.t 14), none⟩])
           (.cond (.t 15)
            .skip
            (.exit 0)))
          (.seq
           (.block 1
            (.reg none [⟨(some 18), .mv (.t 3), none⟩,
              ⟨(some 19), .mv (.t 0), none⟩,
              ⟨(some 20), .mv (.t 4), none⟩,
              ⟨(some 21), .iaddr 1 (.t 19) (.t 20), none⟩,
              ⟨(some 22), .load none (.t 21), none⟩,
              ⟨(some 23), .mx [(.t 18), (.t 22)], none⟩,
              ⟨(some 3), .mv (.t 23), none⟩]))
           (.reg none [⟨(some 16), .mv (.t 4), none⟩,
             ⟨(some 17), .bin .add (.t 16) (.c (.int .i64 1)), none⟩,
             ⟨(some 4), .mv (.t 17), none⟩]))))))
      (.seq
       (.reg none [⟨(some 24), .mv (.t 3), none⟩,
         ⟨(some 2), .mv (.t 24), none⟩])
       .ret))))) }
theorem f101P : prepF C Try.f101 = some f101A := by kernel_rfl

end Go.Proofs.Ytflekaacffdakaa
