/- The abstract forms of the functions that are needed, each checked against the translation. No condition. -/
import Derived.Test.YtalaadcbpjnglaaAm1
import Derived.Test.YtalaadcbpjnglaaProg
namespace Go.Proofs.Ytalaadcbpjnglaa
open Go Go.AM Go.Proofs

/-- the seat's program; the types whose comparison is taken; the functions that may write to what is older -/
def kd : Nat → Kd := fun f => if [79, 80, 81, 96, 97, 102].contains f then .wrt else if [25, 4, 10, 13, 27].contains f then .closed else .ro
noncomputable def C : Cfg := { P := Try.prog, eqT := fun _ => none, kd := kd }
/-- congou/congoulaw09.ArraysMissing -/
def f16A : AFunc :=
{ nargs := 3, res := [.t 6], body :=
  (.seq
   (.reg none [⟨(some 3), .box (.t 0), none⟩,
     ⟨(some 6), .mv (.c (.b false)), none⟩])
   (.seq
    (.reg none [⟨(some 24), .load (some 2) (.t 3), none⟩,
      ⟨(some 25), .call 32 [(.t 24)], none⟩,
      ⟨(some 26), .mv (.t 1), none⟩,
      ⟨(some 27), .call 61 [(.t 25), (.t 26)], none⟩,
      ⟨(some 23), .mv (.t 27), none⟩,
      ⟨(some 28), .extr (.t 23) 0, none⟩,
      ⟨(some 29), .extr (.t 23) 1, none⟩,
      ⟨(some 7), .mv (.t 28), none⟩,
      ⟨(some 8), .mv (.t 29), none⟩])
    (.seq
     (.reg none [⟨(some 31), .load (some 2) (.t 3), none⟩,
       ⟨(some 32), .call 32 [(.t 31)], none⟩,
       ⟨(some 33), .mv (.t 1), none⟩,
       ⟨(some 34), .call 46 [(.t 32), (.t 33)], none⟩,
       ⟨(some 30), .mv (.t 34), none⟩,
       ⟨(some 35), .extr (.t 30) 0, none⟩,
       ⟨(some 36), .extr (.t 30) 1, none⟩,
       ⟨(some 9), .mv (.t 35), none⟩,
       ⟨(some 10), .mv (.t 36), none⟩])
     (.seq
      (.seq
       (.reg none [⟨(some 37), .mv (.t 8), none⟩,
         ⟨(some 38), .bin .neq (.t 37) (.c (.int .i64 0)), none⟩,
         ⟨(some 39), .mv (.t 38), none⟩,
         ⟨(some 40), .load (some 2) (.t 3), some (39, false)⟩,
         ⟨(some 41), .call 38 [(.t 40)], some (39, false)⟩,
         ⟨(some 42), .un .not (.t 41), some (39, false)⟩,
         ⟨(some 43), .pick (.t 39) (.c (.b true)) (.t 42), none⟩,
         ⟨(some 44), .mv (.t 43), none⟩,
         ⟨(some 45), .mv (.t 1), some (44, false)⟩,
         ⟨(some 46), .bin .lss (.t 45) (.c (.int .i64 1)), some (44, false)⟩,
         ⟨(some 47), .pick (.t 44) (.c (.b true)) (.t 46), none⟩,
         ⟨(some 48), .mv (.t 47), none⟩,
         ⟨(some 49), .mv (.t 1), some (48, false)⟩,
         ⟨(some 50), .bin .gtr (.t 49) (.c (.int .i64 2)), some (48, false)⟩,
         ⟨(some 51), .pick (.t 48) (.c (.b true)) (.t 50), none⟩,
         ⟨(some 52), .mv (.t 51), none⟩,
         ⟨(some 53), .mv (.t 1), some (52, false)⟩,
         ⟨(some 54), .load (some 2) (.t 3), some (52, false)⟩,
         ⟨(some 55), .call 39 [(.t 54)], some (52, false)⟩,
         ⟨(some 56), .bin .gtr (.t 53) (.t 55), some (52, false)⟩,
         ⟨(some 57), .pick (.t 52) (.c (.b true)) (.t 56), none⟩])
       (.cond (.t 57)
        (.seq
         (.reg none [⟨(some 58), .mv (.t 8), none⟩,
           ⟨(some 59), .bin .eql (.t 58) (.c (.int .i64 2)), none⟩,
           ⟨(some 60), .mv (.t 59), none⟩,
           ⟨(some 61), .call 25 [], some (60, true)⟩,
           ⟨(some 62), .pick (.t 60) (.t 61) (.c (.b false)), none⟩,
           ⟨(some 6), .mv (.t 62), none⟩])
         .ret)
        .skip))
      (.seq
       (.seq
        (.reg none [⟨(some 63), .mv (.t 10), none⟩,
          ⟨(some 64), .bin .neq (.t 63) (.c (.int .i64 0)), none⟩,
          ⟨(some 65), .mv (.t 64), none⟩,
          ⟨(some 66), .mv (.t 9), some (65, false)⟩,
          ⟨(some 67), .mv (.t 7), some (65, false)⟩,
          ⟨(some 68), .len (.t 67), some (65, false)⟩,
          ⟨(some 69), .bin .eql (.t 68) (.c (.int .i64 0)), some (65, false)⟩,
          ⟨(some 70), .beq true (.t 66) (.t 69), some (65, false)⟩,
          ⟨(some 71), .pick (.t 65) (.c (.b true)) (.t 70), none⟩,
          ⟨(some 72), .mv (.t 71), none⟩,
          ⟨(some 73), .mv (.t 7), some (72, false)⟩,
          ⟨(some 74), .len (.t 73), some (72, false)⟩,
          ⟨(some 75), .bin .gtr (.t 74) (.c (.int .i64 500)), some (72, false)⟩,
          ⟨(some 76), .pick (.t 72) (.c (.b true)) (.t 75), none⟩])
        (.cond (.t 76)
         (.seq
          (.reg none [⟨(some 6), .mv (.c (.b false)), none⟩])
          .ret)
         .skip))
       (.seq
        (.seq
         (.reg none [⟨(some 77), .mv (.t 7), none⟩,
           ⟨(some 78), .len (.t 77), none⟩,
           ⟨(some 79), .mv (.c (.int .i64 0)), none⟩])
         (.block 0
          (.loop
           (.seq
            (.reg none [⟨(some 80), .bin .lss (.t 79) (.t 78), none⟩])
            (.seq
             (.cond (.t 80)
              .skip
              (.exit 0))
             (.seq
              (.block 1
               (.seq
                (.reg none [⟨(some 81), .mv (.t 79), none⟩,
                  ⟨(some 82), .iaddr 1 (.t 77) (.t 79), none⟩,
                  ⟨(some 83), .load none (.t 82), none⟩,
                  ⟨(some 11), .mv (.t 81), none⟩,
                  ⟨(some 12), .mv (.t 83), none⟩])
                (.seq
                 (.seq
                  (.reg none [⟨(some 84), .mv (.t 12), none⟩,
                    ⟨(some 85), .len (.t 84), none⟩,
                    ⟨(some 86), .mv (.t 1), none⟩,
                    ⟨(some 87), .bin .mul (.c (.int .i64 2)) (.t 86), none⟩,
                    ⟨(some 88), .bin .neq (.t 85) (.t 87), none⟩,
                    ⟨(some 89), .mv (.t 88), none⟩,
                    ⟨(some 90), .mv (.t 11), some (89, false)⟩,
                    ⟨(some 91), .bin .gtr (.t 90) (.c (.int .i64 0)), some (89, false)⟩,
                    ⟨(some 92), .mv (.t 91), some (89, false)⟩,
                    ⟨(some 93), .mv (.t 7), some (92, true)⟩,
                    ⟨(some 94), .mv (.t 11), some (92, true)⟩,
                    ⟨(some 95), .bin .sub (.t 94) (.c (.int .i64 1)), some (92, true)⟩,
                    ⟨(some 96), .iaddr 1 (.t 93) (.t 95), some (92, true)⟩,
                    ⟨(some 97), .load none (.t 96), some (92, true)⟩,
                    ⟨(some 98), .mv (.t 12), some (92, true)⟩,
                    ⟨(some 99), .call 67 [(.t 97), (.t 98)], some (92, true)⟩,
                    ⟨(some 100), .bin .geq (.t 99) (.c (.int .i64 0)), some (92, true)⟩,
                    ⟨(some 101), .pick (.t 92) (.t 100) (.c (.b false)), some (89, false)⟩,
                    ⟨(some 102), .pick (.t 89) (.c (.b true)) (.t 101), none⟩])
                  (.cond (.t 102)
                   (.seq
                    (.reg none [⟨(some 6), .mv (.c (.b false)), none⟩])
                    .ret)
                   .skip))
                 (.seq
                  (.seq
                   (.reg none [⟨(some 103), .mv (.t 1), none⟩,
                     ⟨(some 104), .mv (.c (.int .i64 0)), none⟩])
                   (.block 2
                    (.loop
                     (.seq
                      (.reg none [⟨(some 105), .bin .lss (.t 104) (.t 103), none⟩])
                      (.seq
                       (.cond (.t 105)
                        .skip
                        (.exit 2))
                       (.seq
                        (.block 3
                         (.seq
                          (.reg none [⟨(some 106), .mv (.t 104), none⟩,
                            ⟨(some 13), .mv (.t 106), none⟩])
                          (.seq
                           (.reg (some []) [⟨(some 107), .mv (.t 12), none⟩,
                             ⟨(some 108), .mv (.t 13), none⟩,
                             ⟨(some 109), .iaddr 1 (.t 107) (.t 108), none⟩,
                             ⟨(some 110), .load none (.t 109), none⟩,
                             ⟨(some 111), .bin .lss (.t 110) (.c (.int .i64 0)), none⟩,
                             ⟨(some 112), .mv (.t 111), none⟩,
                             ⟨(some 113), .mv (.t 12), some (112, false)⟩,
                             ⟨(some 114), .mv (.t 13), some (112, false)⟩,
                             ⟨(some 115), .iaddr 1 (.t 113) (.t 114), some (112, false)⟩,
                             ⟨(some 116), .load none (.t 115), some (112, false)⟩,
                             ⟨(some 117), .load (some 2) (.t 3), some (112, false)⟩,
                             ⟨(some 118), .call 39 [(.t 117)], some (112, false)⟩,
                             ⟨(some 119), .bin .geq (.t 116) (.t 118), some (112, false)⟩,
                             ⟨(some 120), .pick (.t 112) (.c (.b true)) (.t 119), none⟩,
                             ⟨(some 121), .mv (.t 120), none⟩,
                             ⟨(some 122), .mv (.t 13), some (121, false)⟩,
                             ⟨(some 123), .bin .gtr (.t 122) (.c (.int .i64 0)), some (121, false)⟩,
                             ⟨(some 124), .mv (.t 123), some (121, false)⟩,
                             ⟨(some 125), .mv (.t 12), some (124, true)⟩,
                             ⟨(some 126), .mv (.t 13), some (124, true)⟩,
                             ⟨(some 127), .bin .sub (.t 126) (.c (.int .i64 1)), some (124, true)⟩,
                             ⟨(some 128), .iaddr 1 (.t 125) (.t 127), some (124, true)⟩,
                             ⟨(some 129), .load none (.t 128), some (124, true)⟩,
                             ⟨(some 130), .mv (.t 12), some (124, true)⟩,
                             ⟨(some 131), .mv (.t 13), some (124, true)⟩,
                             ⟨(some 132), .iaddr 1 (.t 130) (.t 131), some (124, true)⟩,
                             ⟨(some 133), .load none (.t 132), some (124, true)⟩,
                             ⟨(some 134), .bin .geq (.t 129) (.t 133), some (124, true)⟩,
                             ⟨(some 135), .pick (.t 124) (.t 134) (.c (.b false)), some (121, false)⟩,
                             ⟨(some 136), .pick (.t 121) (.c (.b true)) (.t 135), none⟩,
                             ⟨(some 137), .mv (.t 136), none⟩,
                             ⟨(some 138), .mv (.t 12), some (137, false)⟩,
                             ⟨(some 139), .mv (.t 1), some (137, false)⟩,
                             ⟨(some 140), .mv (.t 13), some (137, false)⟩,
                             ⟨(some 141), .bin .add (.t 139) (.t 140), some (137, false)⟩,
                             ⟨(some 142), .iaddr 1 (.t 138) (.t 141), some (137, false)⟩,
                             ⟨(some 143), .load none (.t 142), some (137, false)⟩,
                             ⟨(some 144), .bin .lss (.t 143) (.c (.int .i64 0)), some (137, false)⟩,
                             ⟨(some 145), .pick (.t 137) (.c (.b true)) (.t 144), none⟩,
                             ⟨(some 146), .mv (.t 145), none⟩,
                             ⟨(some 147), .mv (.t 12), some (146, false)⟩,
                             ⟨(some 148), .mv (.t 1), some (146, false)⟩,
                             ⟨(some 149), .mv (.t 13), some (146, false)⟩,
                             ⟨(some 150), .bin .add (.t 148) (.t 149), some (146, false)⟩,
                             ⟨(some 151), .iaddr 1 (.t 147) (.t 150), some (146, false)⟩,
                             ⟨(some 152), .load none (.t 151), some (146, false)⟩,
                             ⟨(some 153), .faddr 0 (.t 3), some (146, false)⟩,
                             ⟨(some 154), .load none (.t 153), some (146, false)⟩,
                             ⟨(some 155), .bin .geq (.t 152) (.t 154), some (146, false)⟩,
                             ⟨(some 156), .pick (.t 146) (.c (.b true)) (.t 155), none⟩])
                           (.cond (.t 156)
                            (.seq
                             (.reg none [⟨(some 6), .mv (.c (.b false)), none⟩])
                             .ret)
                            .skip))))
                        (.reg none [⟨(some 157), .bin .add (.t 104) (.c (.int .i64 1)), none⟩,
                          ⟨(some 104), .mv (.t 157), none⟩])))))))
                  (.seq
                   (.reg none [⟨(some 158), .faddr 1 (.t 3), none⟩,
                     ⟨(some 159), .load none (.t 158), none⟩,
                     ⟨(some 160), .len (.t 159), none⟩,
                     ⟨(some 161), .mv (.c (.int .i64 0)), none⟩])
                   (.block 4
                    (.loop
                     (.seq
                      (.reg none [⟨(some 162), .bin .lss (.t 161) (.t 160), none⟩])
                      (.seq
                       (.cond (.t 162)
                        .skip
                        (.exit 4))
                       (.seq
                        (.block 5
                         (.seq
                          (.reg none [⟨(some 163), .iaddr 1 (.t 159) (.t 161), none⟩,
                            ⟨(some 164), .load none (.t 163), none⟩,
                            ⟨(some 15), .mv (.t 164), none⟩])
                          (.seq
                           (.reg none [⟨(some 16), .mv (.c (.b true)), none⟩])
                           (.seq
                            (.seq
                             (.reg none [⟨(some 165), .mv (.t 1), none⟩,
                               ⟨(some 166), .mv (.c (.int .i64 0)), none⟩])
                             (.block 6
                              (.loop
                               (.seq
                                (.reg none [⟨(some 167), .bin .lss (.t 166) (.t 165), none⟩])
                                (.seq
                                 (.cond (.t 167)
                                  .skip
                                  (.exit 6))
                                 (.seq
                                  (.block 7
                                   (.seq
                                    (.reg none [⟨(some 168), .mv (.t 166), none⟩,
                                      ⟨(some 17), .mv (.t 168), none⟩])
                                    (.reg (some []) [⟨(some 169), .mv (.t 16), none⟩,
                                      ⟨(some 170), .mv (.t 169), none⟩,
                                      ⟨(some 171), .mv (.t 15), some (170, true)⟩,
                                      ⟨(some 172), .mv (.t 12), some (170, true)⟩,
                                      ⟨(some 173), .mv (.t 17), some (170, true)⟩,
                                      ⟨(some 174), .iaddr 1 (.t 172) (.t 173), some (170, true)⟩,
                                      ⟨(some 175), .load none (.t 174), some (170, true)⟩,
                                      ⟨(some 176), .iaddr 1 (.t 171) (.t 175), some (170, true)⟩,
                                      ⟨(some 177), .load none (.t 176), some (170, true)⟩,
                                      ⟨(some 178), .mv (.t 12), some (170, true)⟩,
                                      ⟨(some 179), .mv (.t 1), some (170, true)⟩,
                                      ⟨(some 180), .mv (.t 17), some (170, true)⟩,
                                      ⟨(some 181), .bin .add (.t 179) (.t 180), some (170, true)⟩,
                                      ⟨(some 182), .iaddr 1 (.t 178) (.t 181), some (170, true)⟩,
                                      ⟨(some 183), .load none (.t 182), some (170, true)⟩,
                                      ⟨(some 184), .bin .eql (.t 177) (.t 183), some (170, true)⟩,
                                      ⟨(some 185), .pick (.t 170) (.t 184) (.c (.b false)), none⟩,
                                      ⟨(some 16), .mv (.t 185), none⟩])))
                                  (.reg none [⟨(some 186), .bin .add (.t 166) (.c (.int .i64 1)), none⟩,
                                    ⟨(some 166), .mv (.t 186), none⟩])))))))
                            (.seq
                             (.reg none [⟨(some 187), .mv (.t 16), none⟩])
                             (.cond (.t 187)
                              (.seq
                               (.reg none [⟨(some 6), .mv (.c (.b false)), none⟩])
                               .ret)
                              .skip))))))
                        (.reg none [⟨(some 188), .bin .add (.t 161) (.c (.int .i64 1)), none⟩,
                          ⟨(some 161), .mv (.t 188), none⟩])))))))))))
              (.reg none [⟨(some 189), .bin .add (.t 79) (.c (.int .i64 1)), none⟩,
                ⟨(some 79), .mv (.t 189), none⟩])))))))
        (.seq
         (.seq
          (.reg none [⟨(some 190), .mv (.t 9), none⟩,
            ⟨(some 191), .mv (.t 190), none⟩,
            ⟨(some 192), .faddr 1 (.t 3), some (191, false)⟩,
            ⟨(some 193), .load none (.t 192), some (191, false)⟩,
            ⟨(some 194), .len (.t 193), some (191, false)⟩,
            ⟨(some 195), .bin .eql (.t 194) (.c (.int .i64 16)), some (191, false)⟩,
            ⟨(some 196), .pick (.t 191) (.c (.b true)) (.t 195), none⟩])
          (.cond (.t 196)
           (.seq
            (.reg none [⟨(some 197), .call 25 [], none⟩,
              ⟨(some 6), .mv (.t 197), none⟩])
            .ret)
           .skip))
         (.seq
          (.reg none [⟨(some 198), .mv (.t 7), none⟩,
            ⟨(some 199), .mv (.t 2), none⟩,
            ⟨(some 200), .conv .u64 (.t 199), none⟩,
            ⟨(some 201), .mv (.t 7), none⟩,
            ⟨(some 202), .len (.t 201), none⟩,
            ⟨(some 203), .conv .u64 (.t 202), none⟩,
            ⟨(some 204), .bin .rem (.t 200) (.t 203), none⟩,
            ⟨(some 205), .conv .i64 (.t 204), none⟩,
            ⟨(some 206), .iaddr 1 (.t 198) (.t 205), none⟩,
            ⟨(some 207), .load none (.t 206), none⟩,
            ⟨(some 18), .alloc [.nils], none⟩,
            ⟨none, .store 1 (.t 18) (.t 207), none⟩])
          (.seq
           (.reg none [⟨(some 208), .faddr 1 (.t 3), none⟩,
             ⟨(some 209), .load none (.t 208), none⟩,
             ⟨(some 210), .iaddr 1 (.t 209) (.c (.int .i64 0)), none⟩,
             ⟨(some 211), .load none (.t 210), none⟩,
             ⟨(some 212), .call 35 [(.t 211)], none⟩,
             ⟨(some 19), .mv (.t 212), none⟩])
           (.seq
            (.seq
             (.reg none [⟨(some 213), .mv (.t 1), none⟩,
               ⟨(some 214), .mv (.c (.int .i64 0)), none⟩])
             (.block 8
              (.loop
               (.seq
                (.reg none [⟨(some 215), .bin .lss (.t 214) (.t 213), none⟩])
                (.seq
                 (.cond (.t 215)
                  .skip
                  (.exit 8))
                 (.seq
                  (.block 9
                   (.seq
                    (.reg none [⟨(some 216), .mv (.t 214), none⟩,
                      ⟨(some 20), .mv (.t 216), none⟩])
                    (.reg (some []) [⟨(some 217), .mv (.t 19), none⟩,
                      ⟨(some 218), .load none (.t 18), none⟩,
                      ⟨(some 219), .mv (.t 20), none⟩,
                      ⟨(some 220), .iaddr 1 (.t 218) (.t 219), none⟩,
                      ⟨(some 221), .load none (.t 220), none⟩,
                      ⟨(some 222), .load none (.t 18), none⟩,
                      ⟨(some 223), .mv (.t 1), none⟩,
                      ⟨(some 224), .mv (.t 20), none⟩,
                      ⟨(some 225), .bin .add (.t 223) (.t 224), none⟩,
                      ⟨(some 226), .iaddr 1 (.t 222) (.t 225), none⟩,
                      ⟨(some 227), .load none (.t 226), none⟩,
                      ⟨(some 228), .iaddr 1 (.t 217) (.t 221), none⟩,
                      ⟨none, .store 1 (.t 228) (.t 227), none⟩])))
                  (.reg none [⟨(some 229), .bin .add (.t 214) (.c (.int .i64 1)), none⟩,
                    ⟨(some 214), .mv (.t 229), none⟩])))))))
            (.seq
             (.reg none [⟨(some 230), .load (some 2) (.t 3), none⟩,
               ⟨(some 231), .call 32 [(.t 230)], none⟩,
               ⟨(some 21), .alloc [(.int .i64 0), .nils], none⟩,
               ⟨none, .store 2 (.t 21) (.t 231), none⟩])
             (.seq
              (.reg none [⟨(some 232), .faddr 1 (.t 21), none⟩,
                ⟨(some 233), .load none (.t 232), none⟩,
                ⟨(some 234), .mv (.t 19), none⟩,
                ⟨(some 235), .bslice [.nils] 1 1 [(0, (.t 234))], none⟩,
                ⟨(some 236), .append 1 24 (.t 233) (.t 235), none⟩,
                ⟨(some 237), .faddr 1 (.t 21), none⟩,
                ⟨none, .store 1 (.t 237) (.t 236), none⟩])
              (.seq
               (.reg none [⟨(some 239), .load (some 2) (.t 21), none⟩,
                 ⟨(some 240), .mv (.t 1), none⟩,
                 ⟨(some 241), .call 61 [(.t 239), (.t 240)], none⟩,
                 ⟨(some 238), .mv (.t 241), none⟩,
                 ⟨(some 242), .extr (.t 238) 0, none⟩,
                 ⟨(some 243), .extr (.t 238) 1, none⟩,
                 ⟨(some 22), .mv (.t 242), none⟩,
                 ⟨(some 8), .mv (.t 243), none⟩])
               (.seq
                (.reg none [⟨(some 244), .mv (.t 8), none⟩,
                  ⟨(some 245), .bin .eql (.t 244) (.c (.int .i64 0)), none⟩,
                  ⟨(some 246), .mv (.t 245), none⟩,
                  ⟨(some 247), .mv (.t 22), some (246, true)⟩,
                  ⟨(some 248), .len (.t 247), some (246, true)⟩,
                  ⟨(some 249), .mv (.t 7), some (246, true)⟩,
                  ⟨(some 250), .len (.t 249), some (246, true)⟩,
                  ⟨(some 251), .bin .lss (.t 248) (.t 250), some (246, true)⟩,
                  ⟨(some 252), .pick (.t 246) (.t 251) (.c (.b false)), none⟩,
                  ⟨(some 253), .mv (.t 252), none⟩,
                  ⟨(some 254), .mv (.t 22), some (253, true)⟩,
                  ⟨(some 255), .mkfn 69 [] [(.t 18)], some (253, true)⟩,
                  ⟨(some 256), .call 68 [(.t 254), (.t 255)], some (253, true)⟩,
                  ⟨(some 257), .un .not (.t 256), some (253, true)⟩,
                  ⟨(some 258), .pick (.t 253) (.t 257) (.c (.b false)), none⟩,
                  ⟨(some 259), .mv (.t 258), none⟩,
                  ⟨(some 260), .call 25 [], some (259, true)⟩,
                  ⟨(some 261), .pick (.t 259) (.t 260) (.c (.b false)), none⟩,
                  ⟨(some 6), .mv (.t 261), none⟩])
                .ret)))))))))))))) }
theorem f16P : prepF C Try.f16 = some f16A := by kernel_rfl

/-- congou/congoulaw09.awake -/
def f25A : AFunc :=
{ nargs := 0, res := [.t 0], body :=
  (.seq
   (.reg none [⟨(some 0), .mv (.c (.b false)), none⟩])
   (.seq
    (.reg none [⟨(some 4), .bslice [(.int .i64 0)] 3 1 [(0, (.c (.int .i64 0))), (1, (.c (.int .i64 0))), (2, (.c (.int .i64 1)))], none⟩,
      ⟨(some 5), .bslice [(.int .i64 0)] 3 1 [(0, (.c (.int .i64 1))), (1, (.c (.int .i64 0))), (2, (.c (.int .i64 0)))], none⟩,
      ⟨(some 6), .bslice [.nils] 2 1 [(0, (.t 4)), (1, (.t 5))], none⟩,
      ⟨(some 7), .build [(.int .i64 0), .nils] [(0, 1, (.c (.int .i64 2))), (1, 1, (.t 6))], none⟩,
      ⟨(some 8), .call 47 [(.t 7)], none⟩,
      ⟨(some 3), .mv (.t 8), none⟩,
      ⟨(some 9), .extr (.t 3) 0, none⟩,
      ⟨(some 10), .extr (.t 3) 1, none⟩,
      ⟨(some 1), .mv (.t 9), none⟩,
      ⟨(some 2), .mv (.t 10), none⟩])
    (.seq
     (.reg none [⟨(some 11), .mv (.t 1), none⟩,
       ⟨(some 12), .bin .eql (.t 11) (.c (.int .i64 2)), none⟩,
       ⟨(some 13), .mv (.t 12), none⟩,
       ⟨(some 14), .mv (.t 2), some (13, true)⟩,
       ⟨(some 15), .bin .eql (.t 14) (.c (.int .i64 0)), some (13, true)⟩,
       ⟨(some 16), .pick (.t 13) (.t 15) (.c (.b false)), none⟩,
       ⟨(some 0), .mv (.t 16), none⟩])
     .ret))) }
theorem f25P : prepF C Try.f25 = some f25A := by kernel_rfl

/-- congou/congoulaw09.Of -/
def f32A : AFunc :=
{ nargs := 1, res := [.c 2 (some 2)], body :=
  (.seq
   (.reg none [⟨(some 1), .box (.t 0), none⟩,
     ⟨(some 2), .alloc [(.int .i64 0), .nils], none⟩])
   (.seq
    (.reg none [⟨(some 6), .faddr 0 (.t 1), none⟩,
      ⟨(some 7), .load none (.t 6), none⟩,
      ⟨(some 8), .build [(.int .i64 0), .nils] [(0, 1, (.t 7))], none⟩,
      ⟨(some 3), .alloc [(.int .i64 0), .nils], none⟩,
      ⟨none, .store 2 (.t 3) (.t 8), none⟩])
    (.seq
     (.seq
      (.reg none [⟨(some 9), .faddr 1 (.t 1), none⟩,
        ⟨(some 10), .load none (.t 9), none⟩,
        ⟨(some 11), .len (.t 10), none⟩,
        ⟨(some 12), .mv (.c (.int .i64 0)), none⟩])
      (.block 0
       (.loop
        (.seq
         (.reg none [⟨(some 13), .bin .lss (.t 12) (.t 11), none⟩])
         (.seq
          (.cond (.t 13)
           .skip
           (.exit 0))
          (.seq
           (.block 1
            (.seq
             (.reg none [⟨(some 14), .mv (.t 12), none⟩,
               ⟨(some 15), .iaddr 1 (.t 10) (.t 12), none⟩,
               ⟨(some 16), .load none (.t 15), none⟩,
               ⟨(some 4), .mv (.t 14), none⟩,
               ⟨(some 5), .mv (.t 16), none⟩])
             (.seq
              (.reg none [⟨(some 17), .mv (.t 4), none⟩,
                ⟨(some 18), .bin .lss (.t 17) (.c (.int .i64 19)), none⟩])
              (.cond (.t 18)
               (.reg (some []) [⟨(some 19), .faddr 1 (.t 3), none⟩,
                 ⟨(some 20), .load none (.t 19), none⟩,
                 ⟨(some 21), .mv (.t 5), none⟩,
                 ⟨(some 22), .call 35 [(.t 21)], none⟩,
                 ⟨(some 23), .bslice [.nils] 1 1 [(0, (.t 22))], none⟩,
                 ⟨(some 24), .append 1 24 (.t 20) (.t 23), none⟩,
                 ⟨(some 25), .faddr 1 (.t 3), none⟩,
                 ⟨none, .store 1 (.t 25) (.t 24), none⟩])
               .skip))))
           (.reg none [⟨(some 26), .bin .add (.t 12) (.c (.int .i64 1)), none⟩,
             ⟨(some 12), .mv (.t 26), none⟩])))))))
     (.seq
      (.reg none [⟨(some 27), .load (some 2) (.t 3), none⟩,
        ⟨none, .store 2 (.t 2) (.t 27), none⟩])
      .ret)))) }
theorem f32P : prepF C Try.f32 = some f32A := by kernel_rfl

/-- congou/congoulaw09.list -/
def f35A : AFunc :=
{ nargs := 1, res := [.t 2], body :=
  (.seq
   (.reg none [⟨(some 2), .mv (.c .nils), none⟩])
   (.seq
    (.reg none [⟨(some 3), .mv (.t 0), none⟩,
      ⟨(some 4), .mv (.t 0), none⟩,
      ⟨(some 5), .len (.t 4), none⟩,
      ⟨(some 6), .mn [(.t 5), (.c (.int .i64 11))], none⟩,
      ⟨(some 7), .slice 1 (.t 3) none (some (.t 6)) none, none⟩,
      ⟨(some 8), .call 82 [(.t 7)], none⟩,
      ⟨(some 2), .mv (.t 8), none⟩])
    .ret)) }
theorem f35P : prepF C Try.f35 = some f35A := by kernel_rfl

/-- congou/congouref09.Valid -/
def f38A : AFunc :=
{ nargs := 1, res := [.t 2], body :=
  (.seq
   (.reg none [⟨(some 1), .box (.t 0), none⟩,
     ⟨(some 2), .mv (.c (.b false)), none⟩])
   (.seq
    (.seq
     (.reg none [⟨(some 7), .faddr 0 (.t 1), none⟩,
       ⟨(some 8), .load none (.t 7), none⟩,
       ⟨(some 9), .bin .lss (.t 8) (.c (.int .i64 2)), none⟩,
       ⟨(some 10), .mv (.t 9), none⟩,
       ⟨(some 11), .faddr 0 (.t 1), some (10, false)⟩,
       ⟨(some 12), .load none (.t 11), some (10, false)⟩,
       ⟨(some 13), .bin .gtr (.t 12) (.c (.int .i64 4)), some (10, false)⟩,
       ⟨(some 14), .pick (.t 10) (.c (.b true)) (.t 13), none⟩,
       ⟨(some 15), .mv (.t 14), none⟩,
       ⟨(some 16), .faddr 1 (.t 1), some (15, false)⟩,
       ⟨(some 17), .load none (.t 16), some (15, false)⟩,
       ⟨(some 18), .len (.t 17), some (15, false)⟩,
       ⟨(some 19), .bin .lss (.t 18) (.c (.int .i64 1)), some (15, false)⟩,
       ⟨(some 20), .pick (.t 15) (.c (.b true)) (.t 19), none⟩,
       ⟨(some 21), .mv (.t 20), none⟩,
       ⟨(some 22), .faddr 1 (.t 1), some (21, false)⟩,
       ⟨(some 23), .load none (.t 22), some (21, false)⟩,
       ⟨(some 24), .len (.t 23), some (21, false)⟩,
       ⟨(some 25), .bin .gtr (.t 24) (.c (.int .i64 16)), some (21, false)⟩,
       ⟨(some 26), .pick (.t 21) (.c (.b true)) (.t 25), none⟩])
     (.cond (.t 26)
      (.seq
       (.reg none [⟨(some 2), .mv (.c (.b false)), none⟩])
       .ret)
      .skip))
    (.seq
     (.seq
      (.reg none [⟨(some 27), .faddr 1 (.t 1), none⟩,
        ⟨(some 28), .load none (.t 27), none⟩,
        ⟨(some 29), .len (.t 28), none⟩,
        ⟨(some 30), .mv (.c (.int .i64 0)), none⟩])
      (.block 0
       (.loop
        (.seq
         (.reg none [⟨(some 31), .bin .lss (.t 30) (.t 29), none⟩])
         (.seq
          (.cond (.t 31)
           .skip
           (.exit 0))
          (.seq
           (.block 1
            (.seq
             (.reg none [⟨(some 32), .iaddr 1 (.t 28) (.t 30), none⟩,
               ⟨(some 33), .load none (.t 32), none⟩,
               ⟨(some 4), .mv (.t 33), none⟩])
             (.seq
              (.seq
               (.reg none [⟨(some 34), .mv (.t 4), none⟩,
                 ⟨(some 35), .len (.t 34), none⟩,
                 ⟨(some 36), .faddr 1 (.t 1), none⟩,
                 ⟨(some 37), .load none (.t 36), none⟩,
                 ⟨(some 38), .iaddr 1 (.t 37) (.c (.int .i64 0)), none⟩,
                 ⟨(some 39), .load none (.t 38), none⟩,
                 ⟨(some 40), .len (.t 39), none⟩,
                 ⟨(some 41), .bin .neq (.t 35) (.t 40), none⟩,
                 ⟨(some 42), .mv (.t 41), none⟩,
                 ⟨(some 43), .mv (.t 4), some (42, false)⟩,
                 ⟨(some 44), .len (.t 43), some (42, false)⟩,
                 ⟨(some 45), .bin .lss (.t 44) (.c (.int .i64 1)), some (42, false)⟩,
                 ⟨(some 46), .pick (.t 42) (.c (.b true)) (.t 45), none⟩,
                 ⟨(some 47), .mv (.t 46), none⟩,
                 ⟨(some 48), .mv (.t 4), some (47, false)⟩,
                 ⟨(some 49), .len (.t 48), some (47, false)⟩,
                 ⟨(some 50), .bin .gtr (.t 49) (.c (.int .i64 8)), some (47, false)⟩,
                 ⟨(some 51), .pick (.t 47) (.c (.b true)) (.t 50), none⟩])
               (.cond (.t 51)
                (.seq
                 (.reg none [⟨(some 2), .mv (.c (.b false)), none⟩])
                 .ret)
                .skip))
              (.seq
               (.reg none [⟨(some 52), .mv (.t 4), none⟩,
                 ⟨(some 53), .len (.t 52), none⟩,
                 ⟨(some 54), .mv (.c (.int .i64 0)), none⟩])
               (.block 2
                (.loop
                 (.seq
                  (.reg none [⟨(some 55), .bin .lss (.t 54) (.t 53), none⟩])
                  (.seq
                   (.cond (.t 55)
                    .skip
                    (.exit 2))
                   (.seq
                    (.block 3
                     (.seq
                      (.reg none [⟨(some 56), .iaddr 1 (.t 52) (.t 54), none⟩,
                        ⟨(some 57), .load none (.t 56), none⟩,
                        ⟨(some 6), .mv (.t 57), none⟩])
                      (.seq
                       (.reg none [⟨(some 58), .mv (.t 6), none⟩,
                         ⟨(some 59), .bin .lss (.t 58) (.c (.int .i64 0)), none⟩,
                         ⟨(some 60), .mv (.t 59), none⟩,
                         ⟨(some 61), .mv (.t 6), some (60, false)⟩,
                         ⟨(some 62), .faddr 0 (.t 1), some (60, false)⟩,
                         ⟨(some 63), .load none (.t 62), some (60, false)⟩,
                         ⟨(some 64), .bin .geq (.t 61) (.t 63), some (60, false)⟩,
                         ⟨(some 65), .pick (.t 60) (.c (.b true)) (.t 64), none⟩])
                       (.cond (.t 65)
                        (.seq
                         (.reg none [⟨(some 2), .mv (.c (.b false)), none⟩])
                         .ret)
                        .skip))))
                    (.reg none [⟨(some 66), .bin .add (.t 54) (.c (.int .i64 1)), none⟩,
                      ⟨(some 54), .mv (.t 66), none⟩]))))))))))
           (.reg none [⟨(some 67), .bin .add (.t 30) (.c (.int .i64 1)), none⟩,
             ⟨(some 30), .mv (.t 67), none⟩])))))))
     (.seq
      (.reg none [⟨(some 2), .mv (.c (.b true)), none⟩])
      .ret)))) }
theorem f38P : prepF C Try.f38 = some f38A := by kernel_rfl

/-- congou/congouref09.Width -/
def f39A : AFunc :=
{ nargs := 1, res := [.t 2], body :=
  (.seq
   (.reg none [⟨(some 1), .box (.t 0), none⟩,
     ⟨(some 2), .mv (.c (.int .i64 0)), none⟩])
   (.seq
    (.reg none [⟨(some 3), .faddr 1 (.t 1), none⟩,
      ⟨(some 4), .load none (.t 3), none⟩,
      ⟨(some 5), .iaddr 1 (.t 4) (.c (.int .i64 0)), none⟩,
      ⟨(some 6), .load none (.t 5), none⟩,
      ⟨(some 7), .len (.t 6), none⟩,
      ⟨(some 2), .mv (.t 7), none⟩])
    .ret)) }
theorem f39P : prepF C Try.f39 = some f39A := by kernel_rfl

/-- congou/arrays.Covers -/
def f46A : AFunc :=
{ nargs := 2, res := [.c 4 none, .c 5 none], body :=
  (.seq
   (.reg none [⟨(some 2), .box (.t 0), none⟩,
     ⟨(some 4), .alloc [(.b false)], none⟩,
     ⟨(some 5), .alloc [(.int .i64 0)], none⟩])
   (.seq
    (.seq
     (.reg none [⟨(some 8), .load (some 2) (.t 2), none⟩,
       ⟨(some 9), .mv (.t 1), none⟩,
       ⟨(some 10), .call 86 [(.t 8), (.t 9), (.c (.int .i64 3))], none⟩,
       ⟨(some 11), .un .not (.t 10), none⟩])
     (.cond (.t 11)
      (.seq
       (.reg none [⟨none, .store 1 (.t 4) (.c (.b false)), none⟩,
         ⟨none, .store 1 (.t 5) (.c (.int .i64 2)), none⟩])
       .ret)
      .skip))
    (.seq
     (.seq
      (.reg none [⟨(some 12), .load (some 2) (.t 2), none⟩,
        ⟨(some 13), .mv (.t 1), none⟩,
        ⟨(some 14), .call 87 [(.t 12), (.t 13)], none⟩])
      (.block 0
       (.rangeF 19 (.t 14) [15, 16]
        (.reg none [⟨(some 7), .mv (.t 16), none⟩])
        (.block 1
         (.seq
          (.reg none [⟨(some 17), .mv (.t 7), none⟩,
            ⟨(some 18), .bin .eql (.t 17) (.c (.int .i64 0)), none⟩])
          (.cond (.t 18)
           (.seq
            (.reg none [⟨none, .store 1 (.t 4) (.c (.b false)), none⟩,
              ⟨none, .store 1 (.t 5) (.c (.int .i64 0)), none⟩])
            .ret)
           .skip))))))
     (.seq
      (.reg none [⟨none, .store 1 (.t 4) (.c (.b true)), none⟩,
        ⟨none, .store 1 (.t 5) (.c (.int .i64 0)), none⟩])
      .ret)))) }
theorem f46P : prepF C Try.f46 = some f46A := by kernel_rfl

/-- congou/arrays.Distance -/
def f47A : AFunc :=
{ nargs := 1, res := [.t 2, .t 3], body :=
  (.seq
   (.reg none [⟨(some 1), .box (.t 0), none⟩,
     ⟨(some 2), .mv (.c (.int .i64 0)), none⟩,
     ⟨(some 3), .mv (.c (.int .i64 0)), none⟩])
   (.seq
    (.block 0
     (.seq
      (.reg none [⟨(some 12), .load (some 2) (.t 1), none⟩,
        ⟨(some 13), .call 74 [(.t 12)], none⟩,
        ⟨(some 14), .un .not (.t 13), none⟩,
        ⟨(some 11), .mv (.t 14), none⟩])
      (.cond (.t 11)
       (.seq
        (.reg none [⟨(some 2), .mv (.c (.int .i64 0)), none⟩,
          ⟨(some 3), .mv (.c (.int .i64 2)), none⟩])
        .ret)
       (.seq
        (.reg none [⟨(some 16), .faddr 1 (.t 1), none⟩,
          ⟨(some 17), .load none (.t 16), none⟩,
          ⟨(some 18), .len (.t 17), none⟩,
          ⟨(some 19), .bin .eql (.t 18) (.c (.int .i64 1)), none⟩,
          ⟨(some 15), .mv (.t 19), none⟩])
        (.cond (.t 15)
         (.seq
          (.reg none [⟨(some 2), .mv (.c (.int .i64 0)), none⟩,
            ⟨(some 3), .mv (.c (.int .i64 4)), none⟩])
          .ret)
         .skip)))))
    (.seq
     (.reg none [⟨(some 20), .load (some 2) (.t 1), none⟩,
       ⟨(some 21), .call 75 [(.t 20)], none⟩,
       ⟨(some 4), .mv (.t 21), none⟩])
     (.seq
      (.seq
       (.reg none [⟨(some 22), .faddr 1 (.t 1), none⟩,
         ⟨(some 23), .load none (.t 22), none⟩,
         ⟨(some 24), .len (.t 23), none⟩,
         ⟨(some 25), .mv (.c (.int .i64 0)), none⟩])
       (.block 1
        (.loop
         (.seq
          (.reg none [⟨(some 26), .bin .lss (.t 25) (.t 24), none⟩])
          (.seq
           (.cond (.t 26)
            .skip
            (.exit 1))
           (.seq
            (.block 2
             (.seq
              (.reg none [⟨(some 27), .mv (.t 25), none⟩,
                ⟨(some 28), .iaddr 1 (.t 23) (.t 25), none⟩,
                ⟨(some 29), .load none (.t 28), none⟩,
                ⟨(some 5), .mv (.t 27), none⟩,
                ⟨(some 6), .mv (.t 29), none⟩])
              (.seq
               (.reg none [⟨(some 30), .faddr 1 (.t 1), none⟩,
                 ⟨(some 31), .load none (.t 30), none⟩,
                 ⟨(some 32), .mv (.t 5), none⟩,
                 ⟨(some 33), .slice 1 (.t 31) none (some (.t 32)) none, none⟩,
                 ⟨(some 34), .len (.t 33), none⟩,
                 ⟨(some 35), .mv (.c (.int .i64 0)), none⟩])
               (.block 3
                (.loop
                 (.seq
                  (.reg none [⟨(some 36), .bin .lss (.t 35) (.t 34), none⟩])
                  (.seq
                   (.cond (.t 36)
                    .skip
                    (.exit 3))
                   (.seq
                    (.block 4
                     (.seq
                      (.reg none [⟨(some 37), .iaddr 1 (.t 33) (.t 35), none⟩,
                        ⟨(some 38), .load none (.t 37), none⟩,
                        ⟨(some 8), .mv (.t 38), none⟩])
                      (.seq
                       (.reg none [⟨(some 9), .mv (.c (.int .i64 0)), none⟩])
                       (.seq
                        (.seq
                         (.reg none [⟨(some 39), .mv (.t 6), none⟩,
                           ⟨(some 40), .len (.t 39), none⟩,
                           ⟨(some 41), .mv (.c (.int .i64 0)), none⟩])
                         (.block 5
                          (.loop
                           (.seq
                            (.reg none [⟨(some 42), .bin .lss (.t 41) (.t 40), none⟩])
                            (.seq
                             (.cond (.t 42)
                              .skip
                              (.exit 5))
                             (.seq
                              (.block 6
                               (.seq
                                (.reg none [⟨(some 43), .mv (.t 41), none⟩,
                                  ⟨(some 10), .mv (.t 43), none⟩])
                                (.seq
                                 (.reg (some []) [⟨(some 44), .mv (.t 6), none⟩,
                                   ⟨(some 45), .mv (.t 10), none⟩,
                                   ⟨(some 46), .iaddr 1 (.t 44) (.t 45), none⟩,
                                   ⟨(some 47), .load none (.t 46), none⟩,
                                   ⟨(some 48), .mv (.t 8), none⟩,
                                   ⟨(some 49), .mv (.t 10), none⟩,
                                   ⟨(some 50), .iaddr 1 (.t 48) (.t 49), none⟩,
                                   ⟨(some 51), .load none (.t 50), none⟩,
                                   ⟨(some 52), .bin .neq (.t 47) (.t 51), none⟩])
                                 (.cond (.t 52)
                                  (.reg none [⟨(some 53), .mv (.t 9), none⟩,
                                    ⟨(some 54), .bin .add (.t 53) (.c (.int .i64 1)), none⟩,
                                    ⟨(some 9), .mv (.t 54), none⟩])
                                  .skip))))
                              (.reg none [⟨(some 55), .bin .add (.t 41) (.c (.int .i64 1)), none⟩,
                                ⟨(some 41), .mv (.t 55), none⟩])))))))
                        (.reg none [⟨(some 56), .mv (.t 4), none⟩,
                          ⟨(some 57), .mv (.t 9), none⟩,
                          ⟨(some 58), .mn [(.t 56), (.t 57)], none⟩,
                          ⟨(some 4), .mv (.t 58), none⟩])))))
                    (.reg none [⟨(some 59), .bin .add (.t 35) (.c (.int .i64 1)), none⟩,
                      ⟨(some 35), .mv (.t 59), none⟩])))))))))
            (.reg none [⟨(some 60), .bin .add (.t 25) (.c (.int .i64 1)), none⟩,
              ⟨(some 25), .mv (.t 60), none⟩])))))))
      (.seq
       (.reg none [⟨(some 61), .mv (.t 4), none⟩,
         ⟨(some 2), .mv (.t 61), none⟩,
         ⟨(some 3), .mv (.c (.int .i64 0)), none⟩])
       .ret))))) }
theorem f47P : prepF C Try.f47 = some f47A := by kernel_rfl

/-- slices.Equal[[]int,int] -/
def f55A : AFunc :=
{ nargs := 2, res := [.t 4], body :=
  (.seq
   (.reg none [⟨(some 4), .mv (.c (.b false)), none⟩])
   (.seq
    (.seq
     (.reg none [⟨(some 6), .mv (.t 0), none⟩,
       ⟨(some 7), .len (.t 6), none⟩,
       ⟨(some 8), .mv (.t 1), none⟩,
       ⟨(some 9), .len (.t 8), none⟩,
       ⟨(some 10), .bin .neq (.t 7) (.t 9), none⟩])
     (.cond (.t 10)
      (.seq
       (.reg none [⟨(some 4), .mv (.c (.b false)), none⟩])
       .ret)
      .skip))
    (.seq
     (.seq
      (.reg none [⟨(some 11), .mv (.t 0), none⟩,
        ⟨(some 12), .len (.t 11), none⟩,
        ⟨(some 13), .mv (.c (.int .i64 0)), none⟩])
      (.block 0
       (.loop
        (.seq
         (.reg none [⟨(some 14), .bin .lss (.t 13) (.t 12), none⟩])
         (.seq
          (.cond (.t 14)
           .skip
           (.exit 0))
          (.seq
           (.block 1
            (.seq
             (.reg none [⟨(some 15), .mv (.t 13), none⟩,
               ⟨(some 5), .mv (.t 15), none⟩])
             (.seq
              (.reg (some []) [⟨(some 16), .mv (.t 0), none⟩,
                ⟨(some 17), .mv (.t 5), none⟩,
                ⟨(some 18), .iaddr 1 (.t 16) (.t 17), none⟩,
                ⟨(some 19), .load none (.t 18), none⟩,
                ⟨(some 20), .mv (.t 1), none⟩,
                ⟨(some 21), .mv (.t 5), none⟩,
                ⟨(some 22), .iaddr 1 (.t 20) (.t 21), none⟩,
                ⟨(some 23), .load none (.t 22), none⟩,
                ⟨(some 24), .bin .neq (.t 19) (.t 23), none⟩])
              (.cond (.t 24)
               (.seq
                (.reg none [⟨(some 4), .mv (.c (.b false)), none⟩])
                .ret)
               .skip))))
           (.reg none [⟨(some 25), .bin .add (.t 13) (.c (.int .i64 1)), none⟩,
             ⟨(some 13), .mv (.t 25), none⟩])))))))
     (.seq
      (.reg none [⟨(some 4), .mv (.c (.b true)), none⟩])
      .ret)))) }
theorem f55P : prepF C Try.f55 = some f55A := by kernel_rfl

/-- congou/arrays.Missing -/
def f61A : AFunc :=
{ nargs := 2, res := [.t 4, .t 5], body :=
  (.seq
   (.reg none [⟨(some 2), .box (.t 0), none⟩,
     ⟨(some 4), .mv (.c .nils), none⟩,
     ⟨(some 5), .mv (.c (.int .i64 0)), none⟩])
   (.seq
    (.seq
     (.reg none [⟨(some 6), .load (some 2) (.t 2), none⟩,
       ⟨(some 7), .mv (.t 1), none⟩,
       ⟨(some 8), .call 86 [(.t 6), (.t 7), (.c (.int .i64 2))], none⟩,
       ⟨(some 9), .un .not (.t 8), none⟩])
     (.cond (.t 9)
      (.seq
       (.reg none [⟨(some 4), .mv (.c .nils), none⟩,
         ⟨(some 5), .mv (.c (.int .i64 2)), none⟩])
       .ret)
      .skip))
    (.seq
     (.reg none [⟨(some 10), .load (some 2) (.t 2), none⟩,
       ⟨(some 11), .mv (.t 1), none⟩,
       ⟨(some 12), .call 84 [(.t 10), (.t 11)], none⟩,
       ⟨(some 4), .mv (.t 12), none⟩,
       ⟨(some 5), .mv (.c (.int .i64 0)), none⟩])
     .ret))) }
theorem f61P : prepF C Try.f61 = some f61A := by kernel_rfl

/-- slices.Compare[[]int,int] -/
def f67A : AFunc :=
{ nargs := 2, res := [.t 4], body :=
  (.seq
   (.reg none [⟨(some 4), .mv (.c (.int .i64 0)), none⟩])
   (.seq
    (.seq
     (.reg none [⟨(some 9), .mv (.t 0), none⟩,
       ⟨(some 10), .len (.t 9), none⟩,
       ⟨(some 11), .mv (.c (.int .i64 0)), none⟩])
     (.block 0
      (.loop
       (.seq
        (.reg none [⟨(some 12), .bin .lss (.t 11) (.t 10), none⟩])
        (.seq
         (.cond (.t 12)
          .skip
          (.exit 0))
         (.seq
          (.block 1
           (.seq
            (.reg none [⟨(some 13), .mv (.t 11), none⟩,
              ⟨(some 14), .iaddr 1 (.t 9) (.t 11), none⟩,
              ⟨(some 15), .load none (.t 14), none⟩,
              ⟨(some 5), .mv (.t 13), none⟩,
              ⟨(some 6), .mv (.t 15), none⟩])
            (.seq
             (.seq
              (.reg none [⟨(some 16), .mv (.t 5), none⟩,
                ⟨(some 17), .mv (.t 1), none⟩,
                ⟨(some 18), .len (.t 17), none⟩,
                ⟨(some 19), .bin .geq (.t 16) (.t 18), none⟩])
              (.cond (.t 19)
               (.seq
                (.reg none [⟨(some 4), .mv (.c (.int .i64 1)), none⟩])
                .ret)
               .skip))
             (.seq
              (.reg none [⟨(some 20), .mv (.t 1), none⟩,
                ⟨(some 21), .mv (.t 5), none⟩,
                ⟨(some 22), .iaddr 1 (.t 20) (.t 21), none⟩,
                ⟨(some 23), .load none (.t 22), none⟩,
                ⟨(some 7), .mv (.t 23), none⟩])
              (.seq
               (.reg none [⟨(some 24), .mv (.t 6), none⟩,
                 ⟨(some 25), .mv (.t 7), none⟩,
                 ⟨(some 26), .call 93 [(.t 24), (.t 25)], none⟩,
                 ⟨(some 8), .mv (.t 26), none⟩])
               (.seq
                (.reg none [⟨(some 27), .mv (.t 8), none⟩,
                  ⟨(some 28), .bin .neq (.t 27) (.c (.int .i64 0)), none⟩])
                (.cond (.t 28)
                 (.seq
                  (.reg none [⟨(some 29), .mv (.t 8), none⟩,
                    ⟨(some 4), .mv (.t 29), none⟩])
                  .ret)
                 .skip)))))))
          (.reg none [⟨(some 30), .bin .add (.t 11) (.c (.int .i64 1)), none⟩,
            ⟨(some 11), .mv (.t 30), none⟩])))))))
    (.seq
     (.seq
      (.reg none [⟨(some 31), .mv (.t 0), none⟩,
        ⟨(some 32), .len (.t 31), none⟩,
        ⟨(some 33), .mv (.t 1), none⟩,
        ⟨(some 34), .len (.t 33), none⟩,
        ⟨(some 35), .bin .lss (.t 32) (.t 34), none⟩])
      (.cond (.t 35)
       (.seq
        (.reg none [⟨(some 4), .mv (.c (.int .i64 (-1))), none⟩])
        .ret)
       .skip))
     (.seq
      (.reg none [⟨(some 4), .mv (.c (.int .i64 0)), none⟩])
      .ret)))) }
theorem f67P : prepF C Try.f67 = some f67A := by kernel_rfl

/-- slices.ContainsFunc[[][]int,[]int] -/
def f68A : AFunc :=
{ nargs := 2, res := [.t 4], body :=
  (.seq
   (.reg none [⟨(some 4), .mv (.c (.b false)), none⟩])
   (.seq
    (.reg none [⟨(some 5), .mv (.t 0), none⟩,
      ⟨(some 6), .mv (.t 1), none⟩,
      ⟨(some 7), .call 94 [(.t 5), (.t 6)], none⟩,
      ⟨(some 8), .bin .geq (.t 7) (.c (.int .i64 0)), none⟩,
      ⟨(some 4), .mv (.t 8), none⟩])
    .ret)) }
theorem f68P : prepF C Try.f68 = some f68A := by kernel_rfl

/-- congou/congoulaw09.ArraysMissing$1 -/
def f69A : AFunc :=
{ nargs := 2, res := [.t 3], body :=
  (.seq
   (.reg none [⟨(some 3), .mv (.c (.b false)), none⟩])
   (.seq
    (.reg none [⟨(some 4), .mv (.t 0), none⟩,
      ⟨(some 5), .load none (.t 1), none⟩,
      ⟨(some 6), .call 55 [(.t 4), (.t 5)], none⟩,
      ⟨(some 3), .mv (.t 6), none⟩])
    .ret)) }
theorem f69P : prepF C Try.f69 = some f69A := by kernel_rfl

/-- congou/arrays.tuples -/
def f72A : AFunc :=
{ nargs := 3, res := [.t 6], body :=
  (.seq
   (.reg none [⟨(some 3), .box (.t 0), none⟩,
     ⟨(some 4), .box (.t 1), none⟩,
     ⟨(some 5), .box (.t 2), none⟩,
     ⟨(some 6), .mv (.c .nilf), none⟩])
   (.seq
    (.reg none [⟨(some 7), .mkfn 96 [] [(.t 3), (.t 5), (.t 4)], none⟩,
      ⟨(some 6), .mv (.t 7), none⟩])
    .ret)) }
theorem f72P : prepF C Try.f72 = some f72A := by kernel_rfl

/-- (congou/arrays.Array).valid -/
def f74A : AFunc :=
{ nargs := 1, res := [.t 2], body :=
  (.seq
   (.reg none [⟨(some 1), .box (.t 0), none⟩,
     ⟨(some 2), .mv (.c (.b false)), none⟩])
   (.seq
    (.seq
     (.reg none [⟨(some 5), .faddr 0 (.t 1), none⟩,
       ⟨(some 6), .load none (.t 5), none⟩,
       ⟨(some 7), .bin .lss (.t 6) (.c (.int .i64 2)), none⟩,
       ⟨(some 8), .mv (.t 7), none⟩,
       ⟨(some 9), .faddr 0 (.t 1), some (8, false)⟩,
       ⟨(some 10), .load none (.t 9), some (8, false)⟩,
       ⟨(some 11), .bin .gtr (.t 10) (.c (.int .i64 4)), some (8, false)⟩,
       ⟨(some 12), .pick (.t 8) (.c (.b true)) (.t 11), none⟩,
       ⟨(some 13), .mv (.t 12), none⟩,
       ⟨(some 14), .faddr 1 (.t 1), some (13, false)⟩,
       ⟨(some 15), .load none (.t 14), some (13, false)⟩,
       ⟨(some 16), .len (.t 15), some (13, false)⟩,
       ⟨(some 17), .bin .lss (.t 16) (.c (.int .i64 1)), some (13, false)⟩,
       ⟨(some 18), .pick (.t 13) (.c (.b true)) (.t 17), none⟩,
       ⟨(some 19), .mv (.t 18), none⟩,
       ⟨(some 20), .faddr 1 (.t 1), some (19, false)⟩,
       ⟨(some 21), .load none (.t 20), some (19, false)⟩,
       ⟨(some 22), .len (.t 21), some (19, false)⟩,
       ⟨(some 23), .bin .gtr (.t 22) (.c (.int .i64 16)), some (19, false)⟩,
       ⟨(some 24), .pick (.t 19) (.c (.b true)) (.t 23), none⟩])
     (.cond (.t 24)
      (.seq
       (.reg none [⟨(some 2), .mv (.c (.b false)), none⟩])
       .ret)
      .skip))
    (.seq
     (.seq
      (.reg none [⟨(some 25), .faddr 1 (.t 1), none⟩,
        ⟨(some 26), .load none (.t 25), none⟩,
        ⟨(some 27), .len (.t 26), none⟩,
        ⟨(some 28), .mv (.c (.int .i64 0)), none⟩])
      (.block 0
       (.loop
        (.seq
         (.reg none [⟨(some 29), .bin .lss (.t 28) (.t 27), none⟩])
         (.seq
          (.cond (.t 29)
           .skip
           (.exit 0))
          (.seq
           (.block 1
            (.seq
             (.reg none [⟨(some 30), .iaddr 1 (.t 26) (.t 28), none⟩,
               ⟨(some 31), .load none (.t 30), none⟩,
               ⟨(some 4), .mv (.t 31), none⟩])
             (.seq
              (.reg (some []) [⟨(some 32), .mv (.t 4), none⟩,
                ⟨(some 33), .len (.t 32), none⟩,
                ⟨(some 34), .bin .lss (.t 33) (.c (.int .i64 1)), none⟩,
                ⟨(some 35), .mv (.t 34), none⟩,
                ⟨(some 36), .mv (.t 4), some (35, false)⟩,
                ⟨(some 37), .len (.t 36), some (35, false)⟩,
                ⟨(some 38), .bin .gtr (.t 37) (.c (.int .i64 8)), some (35, false)⟩,
                ⟨(some 39), .pick (.t 35) (.c (.b true)) (.t 38), none⟩,
                ⟨(some 40), .mv (.t 39), none⟩,
                ⟨(some 41), .mv (.t 4), some (40, false)⟩,
                ⟨(some 42), .len (.t 41), some (40, false)⟩,
                ⟨(some 43), .faddr 1 (.t 1), some (40, false)⟩,
                ⟨(some 44), .load none (.t 43), some (40, false)⟩,
                ⟨(some 45), .iaddr 1 (.t 44) (.c (.int .i64 0)), some (40, false)⟩,
                ⟨(some 46), .load none (.t 45), some (40, false)⟩,
                ⟨(some 47), .len (.t 46), some (40, false)⟩,
                ⟨(some 48), .bin .neq (.t 42) (.t 47), some (40, false)⟩,
                ⟨(some 49), .pick (.t 40) (.c (.b true)) (.t 48), none⟩,
                ⟨(some 50), .mv (.t 49), none⟩,
                ⟨(some 51), .mv (.t 4), some (50, false)⟩,
                ⟨(some 52), .call 98 [(.t 51)], some (50, false)⟩,
                ⟨(some 53), .bin .lss (.t 52) (.c (.int .i64 0)), some (50, false)⟩,
                ⟨(some 54), .pick (.t 50) (.c (.b true)) (.t 53), none⟩,
                ⟨(some 55), .mv (.t 54), none⟩,
                ⟨(some 56), .mv (.t 4), some (55, false)⟩,
                ⟨(some 57), .call 99 [(.t 56)], some (55, false)⟩,
                ⟨(some 58), .faddr 0 (.t 1), some (55, false)⟩,
                ⟨(some 59), .load none (.t 58), some (55, false)⟩,
                ⟨(some 60), .bin .geq (.t 57) (.t 59), some (55, false)⟩,
                ⟨(some 61), .pick (.t 55) (.c (.b true)) (.t 60), none⟩])
              (.cond (.t 61)
               (.seq
                (.reg none [⟨(some 2), .mv (.c (.b false)), none⟩])
                .ret)
               .skip))))
           (.reg none [⟨(some 62), .bin .add (.t 28) (.c (.int .i64 1)), none⟩,
             ⟨(some 28), .mv (.t 62), none⟩])))))))
     (.seq
      (.reg none [⟨(some 2), .mv (.c (.b true)), none⟩])
      .ret)))) }
theorem f74P : prepF C Try.f74 = some f74A := by kernel_rfl

/-- (congou/arrays.Array).columns -/
def f75A : AFunc :=
{ nargs := 1, res := [.t 2], body :=
  (.seq
   (.reg none [⟨(some 1), .box (.t 0), none⟩,
     ⟨(some 2), .mv (.c (.int .i64 0)), none⟩])
   (.seq
    (.reg none [⟨(some 3), .faddr 1 (.t 1), none⟩,
      ⟨(some 4), .load none (.t 3), none⟩,
      ⟨(some 5), .iaddr 1 (.t 4) (.c (.int .i64 0)), none⟩,
      ⟨(some 6), .load none (.t 5), none⟩,
      ⟨(some 7), .len (.t 6), none⟩,
      ⟨(some 2), .mv (.t 7), none⟩])
    .ret)) }
theorem f75P : prepF C Try.f75 = some f75A := by kernel_rfl

/-- slices.Clone[[]int,int] -/
def f82A : AFunc :=
{ nargs := 1, res := [.t 2], body :=
  (.seq
   (.reg none [⟨(some 2), .mv (.c .nils), none⟩])
   (.seq
    (.seq
     (.reg none [⟨(some 3), .mv (.t 0), none⟩,
       ⟨(some 4), .seq false (.t 3) (.c .nils), none⟩])
     (.cond (.t 4)
      (.seq
       (.reg none [⟨(some 2), .mv (.c .nils), none⟩])
       .ret)
      .skip))
    (.seq
     (.reg none [⟨(some 5), .bslice [(.int .i64 0)] 0 1 [], none⟩,
       ⟨(some 6), .mv (.t 0), none⟩,
       ⟨(some 7), .append 1 8 (.t 5) (.t 6), none⟩,
       ⟨(some 2), .mv (.t 7), none⟩])
     .ret))) }
theorem f82P : prepF C Try.f82 = some f82A := by kernel_rfl

/-- (congou/arrays.Array).missing -/
def f84A : AFunc :=
{ nargs := 2, res := [.t 4], body :=
  (.seq
   (.reg none [⟨(some 2), .box (.t 0), none⟩,
     ⟨(some 4), .mv (.c .nils), none⟩])
   (.seq
    (.reg none [⟨(some 5), .alloc [.nils], none⟩])
    (.seq
     (.seq
      (.reg none [⟨(some 8), .load (some 2) (.t 2), none⟩,
        ⟨(some 9), .mv (.t 1), none⟩,
        ⟨(some 10), .call 87 [(.t 8), (.t 9)], none⟩])
      (.block 0
       (.rangeF 20 (.t 10) [11, 12]
        (.seq
         (.reg none [⟨(some 6), .mv (.t 11), none⟩])
         (.reg none [⟨(some 7), .mv (.t 12), none⟩]))
        (.block 1
         (.seq
          (.reg none [⟨(some 13), .mv (.t 7), none⟩,
            ⟨(some 14), .bin .eql (.t 13) (.c (.int .i64 0)), none⟩])
          (.cond (.t 14)
           (.reg none [⟨(some 15), .load none (.t 5), none⟩,
             ⟨(some 16), .mv (.t 6), none⟩,
             ⟨(some 17), .bslice [.nils] 1 1 [(0, (.t 16))], none⟩,
             ⟨(some 18), .append 1 24 (.t 15) (.t 17), none⟩,
             ⟨none, .store 1 (.t 5) (.t 18), none⟩])
           .skip))))))
     (.seq
      (.reg none [⟨(some 19), .load none (.t 5), none⟩,
        ⟨(some 4), .mv (.t 19), none⟩])
      .ret)))) }
theorem f84P : prepF C Try.f84 = some f84A := by kernel_rfl

/-- (congou/arrays.Array).strong -/
def f86A : AFunc :=
{ nargs := 3, res := [.t 6], body :=
  (.seq
   (.reg none [⟨(some 3), .box (.t 0), none⟩,
     ⟨(some 6), .mv (.c (.b false)), none⟩])
   (.seq
    (.reg none [⟨(some 7), .load (some 2) (.t 3), none⟩,
      ⟨(some 8), .call 74 [(.t 7)], none⟩,
      ⟨(some 9), .mv (.t 8), none⟩,
      ⟨(some 10), .mv (.t 1), some (9, true)⟩,
      ⟨(some 11), .bin .geq (.t 10) (.c (.int .i64 1)), some (9, true)⟩,
      ⟨(some 12), .pick (.t 9) (.t 11) (.c (.b false)), none⟩,
      ⟨(some 13), .mv (.t 12), none⟩,
      ⟨(some 14), .mv (.t 1), some (13, true)⟩,
      ⟨(some 15), .mv (.t 2), some (13, true)⟩,
      ⟨(some 16), .bin .leq (.t 14) (.t 15), some (13, true)⟩,
      ⟨(some 17), .pick (.t 13) (.t 16) (.c (.b false)), none⟩,
      ⟨(some 18), .mv (.t 17), none⟩,
      ⟨(some 19), .mv (.t 1), some (18, true)⟩,
      ⟨(some 20), .load (some 2) (.t 3), some (18, true)⟩,
      ⟨(some 21), .call 75 [(.t 20)], some (18, true)⟩,
      ⟨(some 22), .bin .leq (.t 19) (.t 21), some (18, true)⟩,
      ⟨(some 23), .pick (.t 18) (.t 22) (.c (.b false)), none⟩,
      ⟨(some 6), .mv (.t 23), none⟩])
    .ret)) }
theorem f86P : prepF C Try.f86 = some f86A := by kernel_rfl

/-- (congou/arrays.Array).all -/
def f87A : AFunc :=
{ nargs := 2, res := [.t 4], body :=
  (.seq
   (.reg none [⟨(some 2), .box (.t 0), none⟩,
     ⟨(some 3), .box (.t 1), none⟩,
     ⟨(some 4), .mv (.c .nilf), none⟩])
   (.seq
    (.reg none [⟨(some 5), .mkfn 102 [] [(.t 3), (.t 2)], none⟩,
      ⟨(some 4), .mv (.t 5), none⟩])
    .ret)) }
theorem f87P : prepF C Try.f87 = some f87A := by kernel_rfl

/-- cmp.Compare[int] -/
def f93A : AFunc :=
{ nargs := 2, res := [.t 4], body :=
  (.seq
   (.reg none [⟨(some 4), .mv (.c (.int .i64 0)), none⟩])
   (.seq
    (.reg none [⟨(some 7), .mv (.t 0), none⟩,
      ⟨(some 8), .call 105 [(.t 7)], none⟩,
      ⟨(some 5), .mv (.t 8), none⟩])
    (.seq
     (.reg none [⟨(some 9), .mv (.t 1), none⟩,
       ⟨(some 10), .call 105 [(.t 9)], none⟩,
       ⟨(some 6), .mv (.t 10), none⟩])
     (.seq
      (.seq
       (.reg none [⟨(some 11), .mv (.t 5), none⟩])
       (.cond (.t 11)
        (.seq
         (.seq
          (.reg none [⟨(some 12), .mv (.t 6), none⟩])
          (.cond (.t 12)
           (.seq
            (.reg none [⟨(some 4), .mv (.c (.int .i64 0)), none⟩])
            .ret)
           .skip))
         (.seq
          (.reg none [⟨(some 4), .mv (.c (.int .i64 (-1))), none⟩])
          .ret))
        .skip))
      (.seq
       (.seq
        (.reg none [⟨(some 13), .mv (.t 6), none⟩])
        (.cond (.t 13)
         (.seq
          (.reg none [⟨(some 4), .mv (.c (.int .i64 1)), none⟩])
          .ret)
         .skip))
       (.seq
        (.seq
         (.reg none [⟨(some 14), .mv (.t 0), none⟩,
           ⟨(some 15), .mv (.t 1), none⟩,
           ⟨(some 16), .bin .lss (.t 14) (.t 15), none⟩])
         (.cond (.t 16)
          (.seq
           (.reg none [⟨(some 4), .mv (.c (.int .i64 (-1))), none⟩])
           .ret)
          .skip))
        (.seq
         (.seq
          (.reg none [⟨(some 17), .mv (.t 0), none⟩,
            ⟨(some 18), .mv (.t 1), none⟩,
            ⟨(some 19), .bin .gtr (.t 17) (.t 18), none⟩])
          (.cond (.t 19)
           (.seq
            (.reg none [⟨(some 4), .mv (.c (.int .i64 1)), none⟩])
            .ret)
           .skip))
         (.seq
          (.reg none [⟨(some 4), .mv (.c (.int .i64 0)), none⟩])
          .ret)))))))) }
theorem f93P : prepF C Try.f93 = some f93A := by kernel_rfl

/-- slices.IndexFunc[[][]int,[]int] -/
def f94A : AFunc :=
{ nargs := 2, res := [.t 4], body :=
  (.seq
   (.reg none [⟨(some 4), .mv (.c (.int .i64 0)), none⟩])
   (.seq
    (.seq
     (.reg none [⟨(some 6), .mv (.t 0), none⟩,
       ⟨(some 7), .len (.t 6), none⟩,
       ⟨(some 8), .mv (.c (.int .i64 0)), none⟩])
     (.block 0
      (.loop
       (.seq
        (.reg none [⟨(some 9), .bin .lss (.t 8) (.t 7), none⟩])
        (.seq
         (.cond (.t 9)
          .skip
          (.exit 0))
         (.seq
          (.block 1
           (.seq
            (.reg none [⟨(some 10), .mv (.t 8), none⟩,
              ⟨(some 5), .mv (.t 10), none⟩])
            (.seq
             (.reg none [⟨(some 11), .mv (.t 1), none⟩,
               ⟨(some 12), .mv (.t 0), none⟩,
               ⟨(some 13), .mv (.t 5), none⟩,
               ⟨(some 14), .iaddr 1 (.t 12) (.t 13), none⟩,
               ⟨(some 15), .load none (.t 14), none⟩,
               ⟨(some 16), .callv (.t 11) [(.t 15)], none⟩])
             (.cond (.t 16)
              (.seq
               (.reg none [⟨(some 17), .mv (.t 5), none⟩,
                 ⟨(some 4), .mv (.t 17), none⟩])
               .ret)
              .skip))))
          (.reg none [⟨(some 18), .bin .add (.t 8) (.c (.int .i64 1)), none⟩,
            ⟨(some 8), .mv (.t 18), none⟩])))))))
    (.seq
     (.reg none [⟨(some 4), .mv (.c (.int .i64 (-1))), none⟩])
     .ret))) }
theorem f94P : prepF C Try.f94 = some f94A := by kernel_rfl

/-- congou/arrays.tuples$1 -/
def f96A : AFunc :=
{ nargs := 4, res := [], body :=
  (.seq
   (.reg none [⟨(some 4), .box (.t 0), none⟩])
   (.seq
    (.reg none [⟨(some 5), .alloc [.nilf], none⟩])
    (.seq
     (.reg none [⟨(some 6), .mkfn 97 [] [(.t 1), (.t 4), (.t 2), (.t 3), (.t 5)], none⟩,
       ⟨none, .store 1 (.t 5) (.t 6), none⟩])
     (.reg none [⟨(some 7), .load none (.t 5), none⟩,
       ⟨(some 8), .callv (.t 7) [(.c .nils)], none⟩])))) }
theorem f96P : prepF C Try.f96 = some f96A := by kernel_rfl

/-- congou/arrays.tuples$1$1 -/
def f97A : AFunc :=
{ nargs := 6, res := [.t 7], body :=
  (.seq
   (.reg none [⟨(some 7), .mv (.c (.b false)), none⟩])
   (.seq
    (.seq
     (.reg none [⟨(some 10), .mv (.t 0), none⟩,
       ⟨(some 11), .len (.t 10), none⟩,
       ⟨(some 12), .load none (.t 1), none⟩,
       ⟨(some 13), .bin .eql (.t 11) (.t 12), none⟩])
     (.cond (.t 13)
      (.seq
       (.reg none [⟨(some 14), .load none (.t 2), none⟩,
         ⟨(some 15), .mv (.t 0), none⟩,
         ⟨(some 16), .callv (.t 14) [(.t 15)], none⟩,
         ⟨(some 7), .mv (.t 16), none⟩])
       .ret)
      .skip))
    (.seq
     (.reg none [⟨(some 8), .mv (.c (.int .i64 0)), none⟩])
     (.seq
      (.seq
       (.reg none [⟨(some 17), .load none (.t 3), none⟩,
         ⟨(some 18), .mv (.t 17), none⟩,
         ⟨(some 19), .mv (.t 0), some (18, true)⟩,
         ⟨(some 20), .len (.t 19), some (18, true)⟩,
         ⟨(some 21), .bin .gtr (.t 20) (.c (.int .i64 0)), some (18, true)⟩,
         ⟨(some 22), .pick (.t 18) (.t 21) (.c (.b false)), none⟩])
       (.cond (.t 22)
        (.reg none [⟨(some 23), .mv (.t 0), none⟩,
          ⟨(some 24), .mv (.t 0), none⟩,
          ⟨(some 25), .len (.t 24), none⟩,
          ⟨(some 26), .bin .sub (.t 25) (.c (.int .i64 1)), none⟩,
          ⟨(some 27), .iaddr 1 (.t 23) (.t 26), none⟩,
          ⟨(some 28), .load none (.t 27), none⟩,
          ⟨(some 29), .bin .add (.t 28) (.c (.int .i64 1)), none⟩,
          ⟨(some 8), .mv (.t 29), none⟩])
        .skip))
      (.seq
       (.seq
        (.reg none [⟨(some 30), .mv (.t 8), none⟩,
          ⟨(some 9), .mv (.t 30), none⟩])
        (.block 0
         (.loop
          (.seq
           (.seq
            (.reg none [⟨(some 31), .mv (.t 9), none⟩,
              ⟨(some 32), .load none (.t 4), none⟩,
              ⟨(some 33), .bin .lss (.t 31) (.t 32), none⟩])
            (.cond (.t 33)
             .skip
             (.exit 0)))
           (.seq
            (.block 1
             (.seq
              (.reg (some [(0, 9)]) [⟨(some 36), .load none (.t 5), none⟩,
                ⟨(some 37), .mv (.t 0), none⟩,
                ⟨(some 38), .mv (.t 0), none⟩,
                ⟨(some 39), .len (.t 38), none⟩,
                ⟨(some 40), .mv (.t 0), none⟩,
                ⟨(some 41), .len (.t 40), none⟩,
                ⟨(some 42), .slice 1 (.t 37) none (some (.t 39)) (some (.t 41)), none⟩,
                ⟨(some 43), .mv (.t 9), none⟩,
                ⟨(some 44), .bslice [(.int .i64 0)] 1 1 [(0, (.t 43))], none⟩,
                ⟨(some 45), .append 1 8 (.t 42) (.t 44), none⟩,
                ⟨(some 46), .callv (.t 36) [(.t 45)], none⟩,
                ⟨(some 47), .un .not (.t 46), none⟩])
              (.cond (.t 47)
               (.seq
                (.reg none [⟨(some 7), .mv (.c (.b false)), none⟩])
                .ret)
               .skip)))
            (.reg none [⟨(some 34), .mv (.t 9), none⟩,
              ⟨(some 35), .bin .add (.t 34) (.c (.int .i64 1)), none⟩,
              ⟨(some 9), .mv (.t 35), none⟩]))))))
       (.seq
        (.reg none [⟨(some 7), .mv (.c (.b true)), none⟩])
        .ret)))))) }
theorem f97P : prepF C Try.f97 = some f97A := by kernel_rfl

/-- slices.Min[[]int,int] -/
def f98A : AFunc :=
{ nargs := 1, res := [.t 2], body :=
  (.seq
   (.reg none [⟨(some 2), .mv (.c (.int .i64 0)), none⟩])
   (.seq
    (.seq
     (.reg none [⟨(some 5), .mv (.t 0), none⟩,
       ⟨(some 6), .len (.t 5), none⟩,
       ⟨(some 7), .bin .lss (.t 6) (.c (.int .i64 1)), none⟩])
     (.cond (.t 7)
      (.reg none [⟨(some 8), .bad, none⟩,
        ⟨none, .bad, none⟩])
      .skip))
    (.seq
     (.reg none [⟨(some 9), .mv (.t 0), none⟩,
       ⟨(some 10), .iaddr 1 (.t 9) (.c (.int .i64 0)), none⟩,
       ⟨(some 11), .load none (.t 10), none⟩,
       ⟨(some 3), .mv (.t 11), none⟩])
     (.seq
      (.seq
       (.reg none [⟨(some 4), .mv (.c (.int .i64 1)), none⟩])
       (.block 0
        (.loop
         (.seq
          (.seq
           (.reg none [⟨(some 12), .mv (.t 4), none⟩,
             ⟨(some 13), .mv (.t 0), none⟩,
             ⟨(some 14), .len (.t 13), none⟩,
             ⟨(some 15), .bin .lss (.t 12) (.t 14), none⟩])
           (.cond (.t 15)
            .skip
            (.exit 0)))
          (.seq
           (.block 1
            (.reg none [⟨(some 18), .mv (.t 3), none⟩,
              ⟨(some 19), .mv (.t 0), none⟩,
              ⟨(some 20), .mv (.t 4), none⟩,
              ⟨(some 21), .iaddr 1 (.t 19) (.t 20), none⟩,
              ⟨(some 22), .load none (.t 21), none⟩,
              ⟨(some 23), .mn [(.t 18), (.t 22)], none⟩,
              ⟨(some 3), .mv (.t 23), none⟩]))
           (.reg none [⟨(some 16), .mv (.t 4), none⟩,
             ⟨(some 17), .bin .add (.t 16) (.c (.int .i64 1)), none⟩,
             ⟨(some 4), .mv (.t 17), none⟩]))))))
      (.seq
       (.reg none [⟨(some 24), .mv (.t 3), none⟩,
         ⟨(some 2), .mv (.t 24), none⟩])
       .ret))))) }
theorem f98P : prepF C Try.f98 = some f98A := by kernel_rfl

/-- slices.Max[[]int,int] -/
def f99A : AFunc :=
{ nargs := 1, res := [.t 2], body :=
  (.seq
   (.reg none [⟨(some 2), .mv (.c (.int .i64 0)), none⟩])
   (.seq
    (.seq
     (.reg none [⟨(some 5), .mv (.t 0), none⟩,
       ⟨(some 6), .len (.t 5), none⟩,
       ⟨(some 7), .bin .lss (.t 6) (.c (.int .i64 1)), none⟩])
     (.cond (.t 7)
      (.reg none [⟨(some 8), .bad, none⟩,
        ⟨none, .bad, none⟩])
      .skip))
    (.seq
     (.reg none [⟨(some 9), .mv (.t 0), none⟩,
       ⟨(some 10), .iaddr 1 (.t 9) (.c (.int .i64 0)), none⟩,
       ⟨(some 11), .load none (.t 10), none⟩,
       ⟨(some 3), .mv (.t 11), none⟩])
     (.seq
      (.seq
       (.reg none [⟨(some 4), .mv (.c (.int .i64 1)), none⟩])
       (.block 0
        (.loop
         (.seq
          (.seq
           (.reg none [⟨(some 12), .mv (.t 4), none⟩,
             ⟨(some 13), .mv (.t 0), none⟩,
             ⟨(some 14), .len (.t 13), none⟩,
             ⟨(some 15), .bin .lss (.t 12) (.t 14), none⟩])
           (.cond (.t 15)
            .skip
            (.exit 0)))
          (.seq
           (.block 1
            (.reg none [⟨(some 18), .mv (.t 3), none⟩,
              ⟨(some 19), .mv (.t 0), none⟩,
              ⟨(some 20), .mv (.t 4), none⟩,
              ⟨(some 21), .iaddr 1 (.t 19) (.t 20), none⟩,
              ⟨(some 22), .load none (.t 21), none⟩,
              ⟨(some 23), .mx [(.t 18), (.t 22)], none⟩,
              ⟨(some 3), .mv (.t 23), none⟩]))
           (.reg none [⟨(some 16), .mv (.t 4), none⟩,
             ⟨(some 17), .bin .add (.t 16) (.c (.int .i64 1)), none⟩,
             ⟨(some 4), .mv (.t 17), none⟩]))))))
      (.seq
       (.reg none [⟨(some 24), .mv (.t 3), none⟩,
         ⟨(some 2), .mv (.t 24), none⟩])
       .ret))))) }
theorem f99P : prepF C Try.f99 = some f99A := by kernel_rfl

/-- congou/arrays.comes -/
def f101A : AFunc :=
{ nargs := 3, res := [.t 6], body :=
  (.seq
   (.reg none [⟨(some 6), .mv (.c (.b false)), none⟩])
   (.seq
    (.seq
     (.reg none [⟨(some 9), .mv (.t 1), none⟩,
       ⟨(some 10), .len (.t 9), none⟩,
       ⟨(some 11), .mv (.c (.int .i64 0)), none⟩])
     (.block 0
      (.loop
       (.seq
        (.reg none [⟨(some 12), .bin .lss (.t 11) (.t 10), none⟩])
        (.seq
         (.cond (.t 12)
          .skip
          (.exit 0))
         (.seq
          (.block 1
           (.seq
            (.reg none [⟨(some 13), .mv (.t 11), none⟩,
              ⟨(some 14), .iaddr 1 (.t 9) (.t 11), none⟩,
              ⟨(some 15), .load none (.t 14), none⟩,
              ⟨(some 7), .mv (.t 13), none⟩,
              ⟨(some 8), .mv (.t 15), none⟩])
            (.seq
             (.reg (some []) [⟨(some 16), .mv (.t 0), none⟩,
               ⟨(some 17), .mv (.t 8), none⟩,
               ⟨(some 18), .iaddr 1 (.t 16) (.t 17), none⟩,
               ⟨(some 19), .load none (.t 18), none⟩,
               ⟨(some 20), .mv (.t 2), none⟩,
               ⟨(some 21), .mv (.t 7), none⟩,
               ⟨(some 22), .iaddr 1 (.t 20) (.t 21), none⟩,
               ⟨(some 23), .load none (.t 22), none⟩,
               ⟨(some 24), .bin .neq (.t 19) (.t 23), none⟩])
             (.cond (.t 24)
              (.seq
               (.reg none [⟨(some 6), .mv (.c (.b false)), none⟩])
               .ret)
              .skip))))
          (.reg none [⟨(some 25), .bin .add (.t 11) (.c (.int .i64 1)), none⟩,
            ⟨(some 11), .mv (.t 25), none⟩])))))))
    (.seq
     (.reg none [⟨(some 6), .mv (.c (.b true)), none⟩])
     .ret))) }
theorem f101P : prepF C Try.f101 = some f101A := by kernel_rfl

/-- (congou/arrays.Array).all$1 -/
def f102A : AFunc :=
{ nargs := 3, res := [], body :=
  (.seq
   (.reg none [⟨(some 3), .box (.t 0), none⟩])
   (.seq
    (.reg (some []) [⟨(some 6), .load none (.t 1), none⟩,
      ⟨(some 7), .load (some 2) (.t 2), none⟩,
      ⟨(some 8), .call 75 [(.t 7)], none⟩,
      ⟨(some 9), .call 72 [(.t 6), (.t 8), (.c (.b true))], none⟩])
    (.block 0
     (.rangeF 27 (.t 9) [10]
      (.reg none [⟨(some 4), .alloc [.nils], none⟩,
        ⟨none, .store 1 (.t 4) (.t 10), none⟩])
      (.block 1
       (.seq
        (.reg none [⟨(some 11), .load none (.t 1), none⟩,
          ⟨(some 12), .faddr 0 (.t 2), none⟩,
          ⟨(some 13), .load none (.t 12), none⟩,
          ⟨(some 14), .call 72 [(.t 11), (.t 13), (.c (.b false))], none⟩])
        (.block 2
         (.rangeF 27 (.t 14) [15]
          (.reg none [⟨(some 5), .mv (.t 15), none⟩])
          (.block 3
           (.seq
            (.reg (some []) [⟨(some 16), .load none (.t 3), none⟩,
              ⟨(some 17), .load none (.t 4), none⟩,
              ⟨(some 18), .mv (.t 5), none⟩,
              ⟨(some 19), .bslice [.nils] 2 1 [(0, (.t 17)), (1, (.t 18))], none⟩,
              ⟨(some 20), .call 103 [(.t 19)], none⟩,
              ⟨(some 21), .load (some 2) (.t 2), none⟩,
              ⟨(some 22), .load none (.t 4), none⟩,
              ⟨(some 23), .mv (.t 5), none⟩,
              ⟨(some 24), .call 104 [(.t 21), (.t 22), (.t 23)], none⟩,
              ⟨(some 25), .callv (.t 16) [(.t 20), (.t 24)], none⟩,
              ⟨(some 26), .un .not (.t 25), none⟩])
            (.cond (.t 26)
             .ret
             .skip))))))))))) }
theorem f102P : prepF C Try.f102 = some f102A := by kernel_rfl

/-- slices.Concat[[]int,int] -/
def f103A : AFunc :=
{ nargs := 1, res := [.t 2], body :=
  (.seq
   (.reg none [⟨(some 2), .mv (.c .nils), none⟩])
   (.seq
    (.reg none [⟨(some 3), .mv (.c (.int .i64 0)), none⟩])
    (.seq
     (.seq
      (.reg none [⟨(some 9), .mv (.t 0), none⟩,
        ⟨(some 10), .len (.t 9), none⟩,
        ⟨(some 11), .mv (.c (.int .i64 0)), none⟩])
      (.block 0
       (.loop
        (.seq
         (.reg none [⟨(some 12), .bin .lss (.t 11) (.t 10), none⟩])
         (.seq
          (.cond (.t 12)
           .skip
           (.exit 0))
          (.seq
           (.block 1
            (.seq
             (.reg none [⟨(some 13), .iaddr 1 (.t 9) (.t 11), none⟩,
               ⟨(some 14), .load none (.t 13), none⟩,
               ⟨(some 5), .mv (.t 14), none⟩])
             (.seq
              (.reg none [⟨(some 15), .mv (.t 3), none⟩,
                ⟨(some 16), .mv (.t 5), none⟩,
                ⟨(some 17), .len (.t 16), none⟩,
                ⟨(some 18), .bin .add (.t 15) (.t 17), none⟩,
                ⟨(some 3), .mv (.t 18), none⟩])
              (.seq
               (.reg none [⟨(some 19), .mv (.t 3), none⟩,
                 ⟨(some 20), .bin .lss (.t 19) (.c (.int .i64 0)), none⟩])
               (.cond (.t 20)
                (.reg none [⟨(some 21), .bad, none⟩,
                  ⟨none, .bad, none⟩])
                .skip)))))
           (.reg none [⟨(some 22), .bin .add (.t 11) (.c (.int .i64 1)), none⟩,
             ⟨(some 11), .mv (.t 22), none⟩])))))))
     (.seq
      (.reg none [⟨(some 23), .mv (.t 3), none⟩,
        ⟨(some 24), .call 106 [(.c .nils), (.t 23)], none⟩,
        ⟨(some 6), .mv (.t 24), none⟩])
      (.seq
       (.seq
        (.reg none [⟨(some 25), .mv (.t 0), none⟩,
          ⟨(some 26), .len (.t 25), none⟩,
          ⟨(some 27), .mv (.c (.int .i64 0)), none⟩])
        (.block 2
         (.loop
          (.seq
           (.reg none [⟨(some 28), .bin .lss (.t 27) (.t 26), none⟩])
           (.seq
            (.cond (.t 28)
             .skip
             (.exit 2))
            (.seq
             (.block 3
              (.seq
               (.reg none [⟨(some 29), .iaddr 1 (.t 25) (.t 27), none⟩,
                 ⟨(some 30), .load none (.t 29), none⟩,
                 ⟨(some 8), .mv (.t 30), none⟩])
               (.reg none [⟨(some 31), .mv (.t 6), none⟩,
                 ⟨(some 32), .mv (.t 8), none⟩,
                 ⟨(some 33), .append 1 8 (.t 31) (.t 32), none⟩,
                 ⟨(some 6), .mv (.t 33), none⟩])))
             (.reg none [⟨(some 34), .bin .add (.t 27) (.c (.int .i64 1)), none⟩,
               ⟨(some 27), .mv (.t 34), none⟩])))))))
       (.seq
        (.reg none [⟨(some 35), .mv (.t 6), none⟩,
          ⟨(some 2), .mv (.t 35), none⟩])
        .ret)))))) }
theorem f103P : prepF C Try.f103 = some f103A := by kernel_rfl

/-- (congou/arrays.Array).often -/
def f104A : AFunc :=
{ nargs := 3, res := [.t 6], body :=
  (.seq
   (.reg none [⟨(some 3), .box (.t 0), none⟩,
     ⟨(some 6), .mv (.c (.int .i64 0)), none⟩])
   (.seq
    (.reg none [⟨(some 7), .mv (.c (.int .i64 0)), none⟩])
    (.seq
     (.seq
      (.reg none [⟨(some 10), .faddr 1 (.t 3), none⟩,
        ⟨(some 11), .load none (.t 10), none⟩,
        ⟨(some 12), .len (.t 11), none⟩,
        ⟨(some 13), .mv (.c (.int .i64 0)), none⟩])
      (.block 0
       (.loop
        (.seq
         (.reg none [⟨(some 14), .bin .lss (.t 13) (.t 12), none⟩])
         (.seq
          (.cond (.t 14)
           .skip
           (.exit 0))
          (.seq
           (.block 1
            (.seq
             (.reg none [⟨(some 15), .iaddr 1 (.t 11) (.t 13), none⟩,
               ⟨(some 16), .load none (.t 15), none⟩,
               ⟨(some 9), .mv (.t 16), none⟩])
             (.seq
              (.reg none [⟨(some 17), .mv (.t 9), none⟩,
                ⟨(some 18), .mv (.t 1), none⟩,
                ⟨(some 19), .mv (.t 2), none⟩,
                ⟨(some 20), .call 101 [(.t 17), (.t 18), (.t 19)], none⟩])
              (.cond (.t 20)
               (.reg none [⟨(some 21), .mv (.t 7), none⟩,
                 ⟨(some 22), .bin .add (.t 21) (.c (.int .i64 1)), none⟩,
                 ⟨(some 7), .mv (.t 22), none⟩])
               .skip))))
           (.reg none [⟨(some 23), .bin .add (.t 13) (.c (.int .i64 1)), none⟩,
             ⟨(some 13), .mv (.t 23), none⟩])))))))
     (.seq
      (.reg none [⟨(some 24), .mv (.t 7), none⟩,
        ⟨(some 6), .mv (.t 24), none⟩])
      .ret)))) }
theorem f104P : prepF C Try.f104 = some f104A := by kernel_rfl

/-- cmp.isNaN[int] -/
def f105A : AFunc :=
{ nargs := 1, res := [.t 2], body :=
  (.seq
   (.reg none [⟨(some 2), .mv (.c (.b false)), none⟩])
   (.seq
    (.reg none [⟨(some 3), .mv (.t 0), none⟩,
      ⟨(some 4), .mv (.t 0), none⟩,
      ⟨(some 5), .bin .neq (.t 3) (.t 4), none⟩,
      ⟨(some 2), .mv (.t 5), none⟩])
    .ret)) }
theorem f105P : prepF C Try.f105 = some f105A := by kernel_rfl

/-- slices.Grow[[]int,int] -/
def f106A : AFunc :=
{ nargs := 2, res := [.t 4], body :=
  (.seq
   (.reg none [⟨(some 4), .mv (.c .nils), none⟩])
   (.seq
    (.seq
     (.reg none [⟨(some 5), .mv (.t 1), none⟩,
       ⟨(some 6), .bin .lss (.t 5) (.c (.int .i64 0)), none⟩])
     (.cond (.t 6)
      (.reg none [⟨(some 7), .bad, none⟩,
        ⟨none, .bad, none⟩])
      .skip))
    (.seq
     (.seq
      (.reg none [⟨(some 8), .mv (.t 1), none⟩,
        ⟨(some 9), .mv (.t 0), none⟩,
        ⟨(some 10), .cap (.t 9), none⟩,
        ⟨(some 11), .mv (.t 0), none⟩,
        ⟨(some 12), .len (.t 11), none⟩,
        ⟨(some 13), .bin .sub (.t 10) (.t 12), none⟩,
        ⟨(some 14), .bin .sub (.t 8) (.t 13), none⟩,
        ⟨(some 1), .mv (.t 14), none⟩])
      (.seq
       (.reg none [⟨(some 15), .mv (.t 1), none⟩,
         ⟨(some 16), .bin .gtr (.t 15) (.c (.int .i64 0)), none⟩])
       (.cond (.t 16)
        (.reg none [⟨(some 17), .mv (.t 0), none⟩,
          ⟨(some 18), .mv (.t 0), none⟩,
          ⟨(some 19), .cap (.t 18), none⟩,
          ⟨(some 20), .slice 1 (.t 17) none (some (.t 19)) none, none⟩,
          ⟨(some 21), .mv (.t 1), none⟩,
          ⟨(some 22), .appendz 1 8 [(.int .i64 0)] (.t 20) (.t 21), none⟩,
          ⟨(some 23), .mv (.t 0), none⟩,
          ⟨(some 24), .len (.t 23), none⟩,
          ⟨(some 25), .slice 1 (.t 22) none (some (.t 24)) none, none⟩,
          ⟨(some 0), .mv (.t 25), none⟩])
        .skip)))
     (.seq
      (.reg none [⟨(some 26), .mv (.t 0), none⟩,
        ⟨(some 4), .mv (.t 26), none⟩])
      .ret)))) }
theorem f106P : prepF C Try.f106 = some f106A := by kernel_rfl

end Go.Proofs.Ytalaadcbpjnglaa
