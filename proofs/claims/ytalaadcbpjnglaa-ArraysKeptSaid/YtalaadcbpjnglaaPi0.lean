/- The abstract forms of the functions that are needed, each checked against the translation. No condition. -/
import Derived.Test.YtalaadcbpjnglaaAm1
import Derived.Test.YtalaadcbpjnglaaProg
namespace Go.Proofs.Ytalaadcbpjnglaa
open Go Go.AM Go.Proofs

/-- the seat's program; the types whose comparison is taken; the functions that may write to what is older -/
def kd : Nat → Kd := fun f => if [79, 81, 96, 97, 102].contains f then .wrt else if [25, 4, 10, 13, 27].contains f then .closed else if f = 80 then .del else .ro
noncomputable def C : Cfg := { P := Try.prog, eqT := fun _ => none, kd := kd }
/-- congou/congoulaw09.ArraysKept -/
def f15A : AFunc :=
{ nargs := 6, res := [.t 12], body :=
  (.seq
   (.reg none [⟨(some 6), .box (.t 0), none⟩,
     ⟨(some 12), .mv (.c (.b false)), none⟩])
   (.seq
    (.reg none [⟨(some 46), .load (some 2) (.t 6), none⟩,
      ⟨(some 47), .call 32 [(.t 46)], none⟩,
      ⟨(some 48), .mv (.t 1), none⟩,
      ⟨(some 49), .call 46 [(.t 47), (.t 48)], none⟩,
      ⟨(some 45), .mv (.t 49), none⟩,
      ⟨(some 50), .extr (.t 45) 0, none⟩,
      ⟨(some 51), .extr (.t 45) 1, none⟩,
      ⟨(some 13), .mv (.t 50), none⟩,
      ⟨(some 14), .mv (.t 51), none⟩])
    (.seq
     (.reg none [⟨(some 53), .load (some 2) (.t 6), none⟩,
       ⟨(some 54), .call 32 [(.t 53)], none⟩,
       ⟨(some 55), .mv (.t 1), none⟩,
       ⟨(some 56), .call 57 [(.t 54), (.t 55)], none⟩,
       ⟨(some 52), .mv (.t 56), none⟩,
       ⟨(some 57), .extr (.t 52) 0, none⟩,
       ⟨(some 58), .extr (.t 52) 1, none⟩,
       ⟨(some 15), .mv (.t 57), none⟩,
       ⟨(some 16), .mv (.t 58), none⟩])
     (.seq
      (.seq
       (.reg none [⟨(some 59), .mv (.t 14), none⟩,
         ⟨(some 60), .bin .neq (.t 59) (.c (.int .i64 0)), none⟩,
         ⟨(some 61), .mv (.t 60), none⟩,
         ⟨(some 62), .mv (.t 16), some (61, false)⟩,
         ⟨(some 63), .bin .neq (.t 62) (.c (.int .i64 0)), some (61, false)⟩,
         ⟨(some 64), .pick (.t 61) (.c (.b true)) (.t 63), none⟩,
         ⟨(some 65), .mv (.t 64), none⟩,
         ⟨(some 66), .load (some 2) (.t 6), some (65, false)⟩,
         ⟨(some 67), .call 38 [(.t 66)], some (65, false)⟩,
         ⟨(some 68), .un .not (.t 67), some (65, false)⟩,
         ⟨(some 69), .pick (.t 65) (.c (.b true)) (.t 68), none⟩,
         ⟨(some 70), .mv (.t 69), none⟩,
         ⟨(some 71), .load (some 2) (.t 6), some (70, false)⟩,
         ⟨(some 72), .mv (.t 1), some (70, false)⟩,
         ⟨(some 73), .call 52 [(.t 71), (.t 72)], some (70, false)⟩,
         ⟨(some 74), .un .not (.t 73), some (70, false)⟩,
         ⟨(some 75), .pick (.t 70) (.c (.b true)) (.t 74), none⟩])
       (.cond (.t 75)
        (.seq
         (.reg none [⟨(some 76), .mv (.t 14), none⟩,
           ⟨(some 77), .bin .eql (.t 76) (.c (.int .i64 2)), none⟩,
           ⟨(some 78), .mv (.t 77), none⟩,
           ⟨(some 79), .mv (.t 16), some (78, true)⟩,
           ⟨(some 80), .mv (.t 14), some (78, true)⟩,
           ⟨(some 81), .bin .eql (.t 79) (.t 80), some (78, true)⟩,
           ⟨(some 82), .pick (.t 78) (.t 81) (.c (.b false)), none⟩,
           ⟨(some 83), .mv (.t 82), none⟩,
           ⟨(some 84), .call 25 [], some (83, true)⟩,
           ⟨(some 85), .pick (.t 83) (.t 84) (.c (.b false)), none⟩,
           ⟨(some 12), .mv (.t 85), none⟩])
         .ret)
        .skip))
      (.seq
       (.reg none [⟨(some 87), .load (some 2) (.t 6), none⟩,
         ⟨(some 88), .call 32 [(.t 87)], none⟩,
         ⟨(some 89), .call 47 [(.t 88)], none⟩,
         ⟨(some 86), .mv (.t 89), none⟩,
         ⟨(some 90), .extr (.t 86) 0, none⟩,
         ⟨(some 91), .extr (.t 86) 1, none⟩,
         ⟨(some 17), .mv (.t 90), none⟩,
         ⟨(some 18), .mv (.t 91), none⟩])
       (.seq
        (.reg none [⟨(some 92), .mv (.t 2), none⟩,
          ⟨(some 93), .conv .u64 (.t 92), none⟩,
          ⟨(some 94), .load (some 2) (.t 6), none⟩,
          ⟨(some 95), .call 39 [(.t 94)], none⟩,
          ⟨(some 96), .conv .u64 (.t 95), none⟩,
          ⟨(some 97), .bin .rem (.t 93) (.t 96), none⟩,
          ⟨(some 98), .conv .i64 (.t 97), none⟩,
          ⟨(some 2), .mv (.t 98), none⟩])
        (.seq
         (.reg (some []) [⟨(some 99), .load (some 2) (.t 6), none⟩,
           ⟨(some 100), .call 32 [(.t 99)], none⟩,
           ⟨(some 101), .load (some 2) (.t 6), none⟩,
           ⟨(some 102), .call 32 [(.t 101)], none⟩,
           ⟨(some 19), .alloc [(.int .i64 0), .nils], none⟩,
           ⟨(some 20), .alloc [(.int .i64 0), .nils], none⟩,
           ⟨none, .store 2 (.t 19) (.t 100), none⟩,
           ⟨none, .store 2 (.t 20) (.t 102), none⟩])
         (.seq
          (.reg (some []) [⟨(some 103), .faddr 1 (.t 6), none⟩,
            ⟨(some 104), .load none (.t 103), none⟩,
            ⟨(some 105), .len (.t 104), none⟩,
            ⟨(some 106), .conv .u64 (.t 105), none⟩,
            ⟨(some 107), .load (some 2) (.t 6), none⟩,
            ⟨(some 108), .call 39 [(.t 107)], none⟩,
            ⟨(some 109), .conv .u64 (.t 108), none⟩,
            ⟨(some 21), .mv (.t 106), none⟩,
            ⟨(some 22), .mv (.t 109), none⟩])
          (.seq
           (.reg (some []) [⟨(some 110), .mv (.t 4), none⟩,
             ⟨(some 111), .conv .u64 (.t 110), none⟩,
             ⟨(some 112), .mv (.t 21), none⟩,
             ⟨(some 113), .bin .rem (.t 111) (.t 112), none⟩,
             ⟨(some 114), .mv (.t 5), none⟩,
             ⟨(some 115), .conv .u64 (.t 114), none⟩,
             ⟨(some 116), .mv (.t 21), none⟩,
             ⟨(some 117), .bin .rem (.t 115) (.t 116), none⟩,
             ⟨(some 23), .mv (.t 113), none⟩,
             ⟨(some 24), .mv (.t 117), none⟩])
           (.seq
            (.reg none [⟨(some 118), .faddr 1 (.t 19), none⟩,
              ⟨(some 119), .load none (.t 118), none⟩,
              ⟨(some 120), .mv (.t 23), none⟩,
              ⟨(some 121), .iaddr 1 (.t 119) (.t 120), none⟩,
              ⟨(some 122), .load none (.t 121), none⟩,
              ⟨(some 25), .mv (.t 122), none⟩])
            (.seq
             (.reg (some []) [⟨(some 123), .faddr 1 (.t 19), none⟩,
               ⟨(some 124), .load none (.t 123), none⟩,
               ⟨(some 125), .mv (.t 23), none⟩,
               ⟨(some 126), .faddr 1 (.t 19), none⟩,
               ⟨(some 127), .load none (.t 126), none⟩,
               ⟨(some 128), .mv (.t 24), none⟩,
               ⟨(some 129), .iaddr 1 (.t 127) (.t 128), none⟩,
               ⟨(some 130), .load none (.t 129), none⟩,
               ⟨(some 131), .iaddr 1 (.t 124) (.t 125), none⟩,
               ⟨none, .store 1 (.t 131) (.t 130), none⟩])
             (.seq
              (.reg none [⟨(some 132), .faddr 1 (.t 19), none⟩,
                ⟨(some 133), .load none (.t 132), none⟩,
                ⟨(some 134), .mv (.t 24), none⟩,
                ⟨(some 135), .mv (.t 25), none⟩,
                ⟨(some 136), .iaddr 1 (.t 133) (.t 134), none⟩,
                ⟨none, .store 1 (.t 136) (.t 135), none⟩])
              (.seq
               (.reg (some []) [⟨(some 137), .mv (.t 4), none⟩,
                 ⟨(some 138), .conv .u64 (.t 137), none⟩,
                 ⟨(some 139), .mv (.t 22), none⟩,
                 ⟨(some 140), .bin .rem (.t 138) (.t 139), none⟩,
                 ⟨(some 141), .mv (.t 5), none⟩,
                 ⟨(some 142), .conv .u64 (.t 141), none⟩,
                 ⟨(some 143), .mv (.t 22), none⟩,
                 ⟨(some 144), .bin .rem (.t 142) (.t 143), none⟩,
                 ⟨(some 23), .mv (.t 140), none⟩,
                 ⟨(some 24), .mv (.t 144), none⟩])
               (.seq
                (.seq
                 (.reg none [⟨(some 145), .faddr 1 (.t 20), none⟩,
                   ⟨(some 146), .load none (.t 145), none⟩,
                   ⟨(some 147), .len (.t 146), none⟩,
                   ⟨(some 148), .mv (.c (.int .i64 0)), none⟩])
                 (.block 0
                  (.loop
                   (.seq
                    (.reg none [⟨(some 149), .bin .lss (.t 148) (.t 147), none⟩])
                    (.seq
                     (.cond (.t 149)
                      .skip
                      (.exit 0))
                     (.seq
                      (.block 1
                       (.seq
                        (.reg none [⟨(some 150), .iaddr 1 (.t 146) (.t 148), none⟩,
                          ⟨(some 151), .load none (.t 150), none⟩,
                          ⟨(some 27), .mv (.t 151), none⟩])
                        (.seq
                         (.reg none [⟨(some 152), .mv (.t 27), none⟩,
                           ⟨(some 153), .mv (.t 23), none⟩,
                           ⟨(some 154), .iaddr 1 (.t 152) (.t 153), none⟩,
                           ⟨(some 155), .load none (.t 154), none⟩,
                           ⟨(some 28), .mv (.t 155), none⟩])
                         (.seq
                          (.reg none [⟨(some 156), .mv (.t 27), none⟩,
                            ⟨(some 157), .mv (.t 23), none⟩,
                            ⟨(some 158), .mv (.t 27), none⟩,
                            ⟨(some 159), .mv (.t 24), none⟩,
                            ⟨(some 160), .iaddr 1 (.t 158) (.t 159), none⟩,
                            ⟨(some 161), .load none (.t 160), none⟩,
                            ⟨(some 162), .iaddr 1 (.t 156) (.t 157), none⟩,
                            ⟨none, .store 1 (.t 162) (.t 161), none⟩])
                          (.reg none [⟨(some 163), .mv (.t 27), none⟩,
                            ⟨(some 164), .mv (.t 24), none⟩,
                            ⟨(some 165), .mv (.t 28), none⟩,
                            ⟨(some 166), .iaddr 1 (.t 163) (.t 164), none⟩,
                            ⟨none, .store 1 (.t 166) (.t 165), none⟩])))))
                      (.reg none [⟨(some 167), .bin .add (.t 148) (.c (.int .i64 1)), none⟩,
                        ⟨(some 148), .mv (.t 167), none⟩])))))))
                (.seq
                 (.reg none [⟨(some 168), .load (some 2) (.t 19), none⟩,
                   ⟨(some 169), .load (some 2) (.t 20), none⟩,
                   ⟨(some 170), .bslice [(.int .i64 0), .nils] 2 2 [(0, (.t 168)), (1, (.t 169))], none⟩,
                   ⟨(some 29), .mv (.t 170), none⟩])
                 (.seq
                  (.seq
                   (.reg none [⟨(some 172), .load (some 2) (.t 6), none⟩,
                     ⟨(some 173), .call 32 [(.t 172)], none⟩,
                     ⟨(some 174), .mv (.t 2), none⟩,
                     ⟨(some 175), .mv (.t 3), none⟩,
                     ⟨(some 176), .call 35 [(.t 175)], none⟩,
                     ⟨(some 177), .call 34 [(.t 173), (.t 174), (.t 176)], none⟩,
                     ⟨(some 171), .mv (.t 177), none⟩,
                     ⟨(some 178), .extr (.t 171) 0, none⟩,
                     ⟨(some 179), .extr (.t 171) 1, none⟩,
                     ⟨(some 30), .alloc [(.int .i64 0), .nils], none⟩,
                     ⟨none, .store 2 (.t 30) (.t 178), none⟩,
                     ⟨(some 31), .mv (.t 179), none⟩])
                   (.seq
                    (.reg none [⟨(some 180), .mv (.t 31), none⟩,
                      ⟨(some 181), .bin .eql (.t 180) (.c (.int .i64 0)), none⟩])
                    (.cond (.t 181)
                     (.reg none [⟨(some 182), .mv (.t 29), none⟩,
                       ⟨(some 183), .load (some 2) (.t 30), none⟩,
                       ⟨(some 184), .bslice [(.int .i64 0), .nils] 1 2 [(0, (.t 183))], none⟩,
                       ⟨(some 185), .append 2 32 (.t 182) (.t 184), none⟩,
                       ⟨(some 29), .mv (.t 185), none⟩])
                     (.seq
                      (.reg none [⟨(some 186), .mv (.t 31), none⟩,
                        ⟨(some 187), .bin .neq (.t 186) (.c (.int .i64 2)), none⟩,
                        ⟨(some 188), .mv (.t 187), none⟩,
                        ⟨(some 189), .faddr 0 (.t 6), some (188, false)⟩,
                        ⟨(some 190), .load none (.t 189), some (188, false)⟩,
                        ⟨(some 191), .mv (.t 3), some (188, false)⟩,
                        ⟨(some 192), .call 41 [(.t 190), (.t 191)], some (188, false)⟩,
                        ⟨(some 193), .pick (.t 188) (.c (.b true)) (.t 192), none⟩])
                      (.cond (.t 193)
                       (.seq
                        (.reg none [⟨(some 12), .mv (.c (.b false)), none⟩])
                        .ret)
                       .skip)))))
                  (.seq
                   (.seq
                    (.reg none [⟨(some 194), .mv (.t 29), none⟩,
                      ⟨(some 195), .len (.t 194), none⟩,
                      ⟨(some 196), .mv (.c (.int .i64 0)), none⟩])
                    (.block 2
                     (.loop
                      (.seq
                       (.reg none [⟨(some 197), .bin .lss (.t 196) (.t 195), none⟩])
                       (.seq
                        (.cond (.t 197)
                         .skip
                         (.exit 2))
                        (.seq
                         (.block 3
                          (.seq
                           (.reg none [⟨(some 198), .iaddr 2 (.t 194) (.t 196), none⟩,
                             ⟨(some 199), .load (some 2) (.t 198), none⟩,
                             ⟨(some 33), .alloc [(.int .i64 0), .nils], none⟩,
                             ⟨none, .store 2 (.t 33) (.t 199), none⟩])
                           (.seq
                            (.seq
                             (.reg (some []) [⟨(some 200), .load (some 2) (.t 33), none⟩,
                               ⟨(some 201), .call 21 [(.t 200)], none⟩,
                               ⟨(some 202), .call 38 [(.t 201)], none⟩,
                               ⟨(some 203), .un .not (.t 202), none⟩,
                               ⟨(some 204), .mv (.t 203), none⟩,
                               ⟨(some 205), .load (some 2) (.t 33), some (204, false)⟩,
                               ⟨(some 206), .call 21 [(.t 205)], some (204, false)⟩,
                               ⟨(some 207), .load (some 2) (.t 6), some (204, false)⟩,
                               ⟨(some 208), .call 36 [(.t 206), (.t 207)], some (204, false)⟩,
                               ⟨(some 209), .un .not (.t 208), some (204, false)⟩,
                               ⟨(some 210), .pick (.t 204) (.c (.b true)) (.t 209), none⟩])
                             (.cond (.t 210)
                              (.seq
                               (.reg none [⟨(some 12), .mv (.c (.b false)), none⟩])
                               .ret)
                              .skip))
                            (.seq
                             (.reg none [⟨(some 212), .load (some 2) (.t 33), none⟩,
                               ⟨(some 213), .call 21 [(.t 212)], none⟩,
                               ⟨(some 214), .call 32 [(.t 213)], none⟩,
                               ⟨(some 215), .mv (.t 1), none⟩,
                               ⟨(some 216), .call 46 [(.t 214), (.t 215)], none⟩,
                               ⟨(some 211), .mv (.t 216), none⟩,
                               ⟨(some 217), .extr (.t 211) 0, none⟩,
                               ⟨(some 218), .extr (.t 211) 1, none⟩,
                               ⟨(some 34), .mv (.t 217), none⟩,
                               ⟨(some 35), .mv (.t 218), none⟩])
                             (.seq
                              (.reg none [⟨(some 220), .load (some 2) (.t 33), none⟩,
                                ⟨(some 221), .call 21 [(.t 220)], none⟩,
                                ⟨(some 222), .call 32 [(.t 221)], none⟩,
                                ⟨(some 223), .mv (.t 1), none⟩,
                                ⟨(some 224), .call 57 [(.t 222), (.t 223)], none⟩,
                                ⟨(some 219), .mv (.t 224), none⟩,
                                ⟨(some 225), .extr (.t 219) 0, none⟩,
                                ⟨(some 226), .extr (.t 219) 1, none⟩,
                                ⟨(some 36), .mv (.t 225), none⟩,
                                ⟨(some 37), .mv (.t 226), none⟩])
                              (.seq
                               (.reg none [⟨(some 228), .load (some 2) (.t 33), none⟩,
                                 ⟨(some 229), .call 21 [(.t 228)], none⟩,
                                 ⟨(some 230), .call 32 [(.t 229)], none⟩,
                                 ⟨(some 231), .call 47 [(.t 230)], none⟩,
                                 ⟨(some 227), .mv (.t 231), none⟩,
                                 ⟨(some 232), .extr (.t 227) 0, none⟩,
                                 ⟨(some 233), .extr (.t 227) 1, none⟩,
                                 ⟨(some 38), .mv (.t 232), none⟩,
                                 ⟨(some 39), .mv (.t 233), none⟩])
                               (.seq
                                (.reg none [⟨(some 234), .mv (.t 34), none⟩,
                                  ⟨(some 235), .mv (.t 13), none⟩,
                                  ⟨(some 236), .beq true (.t 234) (.t 235), none⟩,
                                  ⟨(some 237), .mv (.t 236), none⟩,
                                  ⟨(some 238), .mv (.t 36), some (237, false)⟩,
                                  ⟨(some 239), .mv (.t 15), some (237, false)⟩,
                                  ⟨(some 240), .beq true (.t 238) (.t 239), some (237, false)⟩,
                                  ⟨(some 241), .pick (.t 237) (.c (.b true)) (.t 240), none⟩,
                                  ⟨(some 242), .mv (.t 241), none⟩,
                                  ⟨(some 243), .mv (.t 38), some (242, false)⟩,
                                  ⟨(some 244), .mv (.t 17), some (242, false)⟩,
                                  ⟨(some 245), .bin .neq (.t 243) (.t 244), some (242, false)⟩,
                                  ⟨(some 246), .pick (.t 242) (.c (.b true)) (.t 245), none⟩,
                                  ⟨(some 247), .mv (.t 246), none⟩,
                                  ⟨(some 248), .mv (.t 35), some (247, false)⟩,
                                  ⟨(some 249), .bin .neq (.t 248) (.c (.int .i64 0)), some (247, false)⟩,
                                  ⟨(some 250), .pick (.t 247) (.c (.b true)) (.t 249), none⟩,
                                  ⟨(some 251), .mv (.t 250), none⟩,
                                  ⟨(some 252), .mv (.t 37), some (251, false)⟩,
                                  ⟨(some 253), .bin .neq (.t 252) (.c (.int .i64 0)), some (251, false)⟩,
                                  ⟨(some 254), .pick (.t 251) (.c (.b true)) (.t 253), none⟩,
                                  ⟨(some 255), .mv (.t 254), none⟩,
                                  ⟨(some 256), .mv (.t 39), some (255, false)⟩,
                                  ⟨(some 257), .mv (.t 18), some (255, false)⟩,
                                  ⟨(some 258), .bin .neq (.t 256) (.t 257), some (255, false)⟩,
                                  ⟨(some 259), .pick (.t 255) (.c (.b true)) (.t 258), none⟩])
                                (.cond (.t 259)
                                 (.seq
                                  (.reg none [⟨(some 12), .mv (.c (.b false)), none⟩])
                                  .ret)
                                 .skip))))))))
                         (.reg none [⟨(some 260), .bin .add (.t 196) (.c (.int .i64 1)), none⟩,
                           ⟨(some 196), .mv (.t 260), none⟩])))))))
                   (.seq
                    (.reg none [⟨(some 262), .load (some 2) (.t 6), none⟩,
                      ⟨(some 263), .call 32 [(.t 262)], none⟩,
                      ⟨(some 264), .mv (.t 2), none⟩,
                      ⟨(some 265), .call 33 [(.t 263), (.t 264)], none⟩,
                      ⟨(some 261), .mv (.t 265), none⟩,
                      ⟨(some 266), .extr (.t 261) 0, none⟩,
                      ⟨(some 267), .extr (.t 261) 1, none⟩,
                      ⟨(some 40), .alloc [(.int .i64 0), .nils], none⟩,
                      ⟨none, .store 2 (.t 40) (.t 266), none⟩,
                      ⟨(some 14), .mv (.t 267), none⟩])
                    (.seq
                     (.seq
                      (.reg none [⟨(some 268), .mv (.t 14), none⟩,
                        ⟨(some 269), .bin .neq (.t 268) (.c (.int .i64 0)), none⟩,
                        ⟨(some 270), .mv (.t 269), none⟩,
                        ⟨(some 271), .mv (.t 1), some (270, false)⟩,
                        ⟨(some 272), .load (some 2) (.t 6), some (270, false)⟩,
                        ⟨(some 273), .call 39 [(.t 272)], some (270, false)⟩,
                        ⟨(some 274), .bin .geq (.t 271) (.t 273), some (270, false)⟩,
                        ⟨(some 275), .pick (.t 270) (.c (.b true)) (.t 274), none⟩])
                      (.cond (.t 275)
                       (.seq
                        (.reg none [⟨(some 276), .mv (.t 14), none⟩,
                          ⟨(some 277), .bin .eql (.t 276) (.c (.int .i64 0)), none⟩,
                          ⟨(some 278), .mv (.t 277), none⟩,
                          ⟨(some 279), .mv (.t 14), some (278, false)⟩,
                          ⟨(some 280), .bin .eql (.t 279) (.c (.int .i64 4)), some (278, false)⟩,
                          ⟨(some 281), .mv (.t 280), some (278, false)⟩,
                          ⟨(some 282), .load (some 2) (.t 6), some (281, true)⟩,
                          ⟨(some 283), .call 39 [(.t 282)], some (281, true)⟩,
                          ⟨(some 284), .bin .eql (.t 283) (.c (.int .i64 1)), some (281, true)⟩,
                          ⟨(some 285), .pick (.t 281) (.t 284) (.c (.b false)), some (278, false)⟩,
                          ⟨(some 286), .pick (.t 278) (.c (.b true)) (.t 285), none⟩,
                          ⟨(some 287), .mv (.t 286), none⟩,
                          ⟨(some 288), .call 25 [], some (287, true)⟩,
                          ⟨(some 289), .pick (.t 287) (.t 288) (.c (.b false)), none⟩,
                          ⟨(some 12), .mv (.t 289), none⟩])
                        .ret)
                       .skip))
                     (.seq
                      (.reg none [⟨(some 291), .load (some 2) (.t 40), none⟩,
                        ⟨(some 292), .call 21 [(.t 291)], none⟩,
                        ⟨(some 293), .call 32 [(.t 292)], none⟩,
                        ⟨(some 294), .mv (.t 1), none⟩,
                        ⟨(some 295), .call 46 [(.t 293), (.t 294)], none⟩,
                        ⟨(some 290), .mv (.t 295), none⟩,
                        ⟨(some 296), .extr (.t 290) 0, none⟩,
                        ⟨(some 297), .extr (.t 290) 1, none⟩,
                        ⟨(some 41), .mv (.t 296), none⟩,
                        ⟨(some 42), .mv (.t 297), none⟩])
                      (.seq
                       (.reg none [⟨(some 299), .load (some 2) (.t 40), none⟩,
                         ⟨(some 300), .mv (.t 1), none⟩,
                         ⟨(some 301), .call 57 [(.t 299), (.t 300)], none⟩,
                         ⟨(some 298), .mv (.t 301), none⟩,
                         ⟨(some 302), .extr (.t 298) 0, none⟩,
                         ⟨(some 303), .extr (.t 298) 1, none⟩,
                         ⟨(some 43), .mv (.t 302), none⟩,
                         ⟨(some 44), .mv (.t 303), none⟩])
                       (.seq
                        (.reg none [⟨(some 304), .mv (.t 42), none⟩,
                          ⟨(some 305), .bin .eql (.t 304) (.c (.int .i64 0)), none⟩,
                          ⟨(some 306), .mv (.t 305), none⟩,
                          ⟨(some 307), .mv (.t 44), some (306, true)⟩,
                          ⟨(some 308), .bin .eql (.t 307) (.c (.int .i64 0)), some (306, true)⟩,
                          ⟨(some 309), .pick (.t 306) (.t 308) (.c (.b false)), none⟩,
                          ⟨(some 310), .mv (.t 309), none⟩,
                          ⟨(some 311), .mv (.t 13), some (310, true)⟩,
                          ⟨(some 312), .un .not (.t 311), some (310, true)⟩,
                          ⟨(some 313), .mv (.t 312), some (310, true)⟩,
                          ⟨(some 314), .mv (.t 41), some (313, false)⟩,
                          ⟨(some 315), .pick (.t 313) (.c (.b true)) (.t 314), some (310, true)⟩,
                          ⟨(some 316), .pick (.t 310) (.t 315) (.c (.b false)), none⟩,
                          ⟨(some 317), .mv (.t 316), none⟩,
                          ⟨(some 318), .mv (.t 15), some (317, true)⟩,
                          ⟨(some 319), .un .not (.t 318), some (317, true)⟩,
                          ⟨(some 320), .mv (.t 319), some (317, true)⟩,
                          ⟨(some 321), .mv (.t 43), some (320, false)⟩,
                          ⟨(some 322), .pick (.t 320) (.c (.b true)) (.t 321), some (317, true)⟩,
                          ⟨(some 323), .pick (.t 317) (.t 322) (.c (.b false)), none⟩,
                          ⟨(some 324), .mv (.t 323), none⟩,
                          ⟨(some 325), .call 25 [], some (324, true)⟩,
                          ⟨(some 326), .pick (.t 324) (.t 325) (.c (.b false)), none⟩,
                          ⟨(some 12), .mv (.t 326), none⟩])
                        .ret)))))))))))))))))))))) }
theorem f15P : prepF C Try.f15 = some f15A := by kernel_rfl

/-- congou/congoulaw09.own -/
def f21A : AFunc :=
{ nargs := 1, res := [.c 2 (some 2)], body :=
  (.seq
   (.reg none [⟨(some 1), .box (.t 0), none⟩,
     ⟨(some 2), .alloc [(.int .i64 0), .nils], none⟩])
   (.seq
    (.reg none [⟨(some 3), .faddr 0 (.t 1), none⟩,
      ⟨(some 4), .load none (.t 3), none⟩,
      ⟨(some 5), .faddr 1 (.t 1), none⟩,
      ⟨(some 6), .load none (.t 5), none⟩,
      ⟨(some 7), .build [(.int .i64 0), .nils] [(0, 1, (.t 4)), (1, 1, (.t 6))], none⟩,
      ⟨none, .store 2 (.t 2) (.t 7), none⟩])
    .ret)) }
theorem f21P : prepF C Try.f21 = some f21A := by kernel_rfl

/-- congou/congoulaw09.awake -/
def f25A : AFunc :=
{ nargs := 0, res := [.t 0], body :=
  (.seq
   (.reg none [⟨(some 0), .mv (.c (.b false)), none⟩])
   (.seq
    (.reg none [⟨(some 4), .bslice [(.int .i64 0)] 3 1 [(0, (.c (.int .i64 0))), (1, (.c (.int .i64 0))), (2, (.c (.int .i64 1)))], none⟩,
      ⟨(some 5), .bslice [(.int .i64 0)] 3 1 [(0, (.c (.int .i64 1))), (1, (.c (.int .i64 0))), (2, (.c (.int .i64 0)))], none⟩,
      ⟨(some 6), .bslice [.nils] 2 1 [(0, (.t 4)), (1, (.t 5))], none⟩,
      ⟨(some 7), .build [(.int .i64 0), .nils] [(0, 1, (.c (.int .i64 2))), (1, 1, (.t 6))], none⟩,
      ⟨(some 8), .call 47 [(.t 7)], none⟩,
      ⟨(some 3), .mv (.t 8), none⟩,
      ⟨(some 9), .extr (.t 3) 0, none⟩,
      ⟨(some 10), .extr (.t 3) 1, none⟩,
      ⟨(some 1), .mv (.t 9), none⟩,
      ⟨(some 2), .mv (.t 10), none⟩])
    (.seq
     (.reg none [⟨(some 11), .mv (.t 1), none⟩,
       ⟨(some 12), .bin .eql (.t 11) (.c (.int .i64 2)), none⟩,
       ⟨(some 13), .mv (.t 12), none⟩,
       ⟨(some 14), .mv (.t 2), some (13, true)⟩,
       ⟨(some 15), .bin .eql (.t 14) (.c (.int .i64 0)), some (13, true)⟩,
       ⟨(some 16), .pick (.t 13) (.t 15) (.c (.b false)), none⟩,
       ⟨(some 0), .mv (.t 16), none⟩])
     .ret))) }
theorem f25P : prepF C Try.f25 = some f25A := by kernel_rfl

/-- congou/congoulaw09.Of -/
def f32A : AFunc :=
{ nargs := 1, res := [.c 2 (some 2)], body :=
  (.seq
   (.reg none [⟨(some 1), .box (.t 0), none⟩,
     ⟨(some 2), .alloc [(.int .i64 0), .nils], none⟩])
   (.seq
    (.reg none [⟨(some 6), .faddr 0 (.t 1), none⟩,
      ⟨(some 7), .load none (.t 6), none⟩,
      ⟨(some 8), .build [(.int .i64 0), .nils] [(0, 1, (.t 7))], none⟩,
      ⟨(some 3), .alloc [(.int .i64 0), .nils], none⟩,
      ⟨none, .store 2 (.t 3) (.t 8), none⟩])
    (.seq
     (.seq
      (.reg none [⟨(some 9), .faddr 1 (.t 1), none⟩,
        ⟨(some 10), .load none (.t 9), none⟩,
        ⟨(some 11), .len (.t 10), none⟩,
        ⟨(some 12), .mv (.c (.int .i64 0)), none⟩])
      (.block 0
       (.loop
        (.seq
         (.reg none [⟨(some 13), .bin .lss (.t 12) (.t 11), none⟩])
         (.seq
          (.cond (.t 13)
           .skip
           (.exit 0))
          (.seq
           (.block 1
            (.seq
             (.reg none [⟨(some 14), .mv (.t 12), none⟩,
               ⟨(some 15), .iaddr 1 (.t 10) (.t 12), none⟩,
               ⟨(some 16), .load none (.t 15), none⟩,
               ⟨(some 4), .mv (.t 14), none⟩,
               ⟨(some 5), .mv (.t 16), none⟩])
             (.seq
              (.reg none [⟨(some 17), .mv (.t 4), none⟩,
                ⟨(some 18), .bin .lss (.t 17) (.c (.int .i64 19)), none⟩])
              (.cond (.t 18)
               (.reg (some []) [⟨(some 19), .faddr 1 (.t 3), none⟩,
                 ⟨(some 20), .load none (.t 19), none⟩,
                 ⟨(some 21), .mv (.t 5), none⟩,
                 ⟨(some 22), .call 35 [(.t 21)], none⟩,
                 ⟨(some 23), .bslice [.nils] 1 1 [(0, (.t 22))], none⟩,
                 ⟨(some 24), .append 1 24 (.t 20) (.t 23), none⟩,
                 ⟨(some 25), .faddr 1 (.t 3), none⟩,
                 ⟨none, .store 1 (.t 25) (.t 24), none⟩])
               .skip))))
           (.reg none [⟨(some 26), .bin .add (.t 12) (.c (.int .i64 1)), none⟩,
             ⟨(some 12), .mv (.t 26), none⟩])))))))
     (.seq
      (.reg none [⟨(some 27), .load (some 2) (.t 3), none⟩,
        ⟨none, .store 2 (.t 2) (.t 27), none⟩])
      .ret)))) }
theorem f32P : prepF C Try.f32 = some f32A := by kernel_rfl

/-- congou/arrays.Drop -/
def f33A : AFunc :=
{ nargs := 2, res := [.c 4 (some 2), .t 5], body :=
  (.seq
   (.reg none [⟨(some 2), .box (.t 0), none⟩,
     ⟨(some 3), .box (.t 1), none⟩,
     ⟨(some 4), .alloc [(.int .i64 0), .nils], none⟩,
     ⟨(some 5), .mv (.c (.int .i64 0)), none⟩])
   (.seq
    (.block 0
     (.seq
      (.reg (some []) [⟨(some 7), .load (some 2) (.t 2), none⟩,
        ⟨(some 8), .call 74 [(.t 7)], none⟩,
        ⟨(some 9), .un .not (.t 8), none⟩,
        ⟨(some 10), .mv (.t 9), none⟩,
        ⟨(some 11), .load none (.t 3), some (10, false)⟩,
        ⟨(some 12), .bin .lss (.t 11) (.c (.int .i64 0)), some (10, false)⟩,
        ⟨(some 13), .pick (.t 10) (.c (.b true)) (.t 12), none⟩,
        ⟨(some 14), .mv (.t 13), none⟩,
        ⟨(some 15), .load none (.t 3), some (14, false)⟩,
        ⟨(some 16), .load (some 2) (.t 2), some (14, false)⟩,
        ⟨(some 17), .call 75 [(.t 16)], some (14, false)⟩,
        ⟨(some 18), .bin .geq (.t 15) (.t 17), some (14, false)⟩,
        ⟨(some 19), .pick (.t 14) (.c (.b true)) (.t 18), none⟩,
        ⟨(some 6), .mv (.t 19), none⟩])
      (.cond (.t 6)
       (.seq
        (.reg none [⟨(some 20), .build [(.int .i64 0), .nils] [], none⟩,
          ⟨none, .store 2 (.t 4) (.t 20), none⟩,
          ⟨(some 5), .mv (.c (.int .i64 2)), none⟩])
        .ret)
       (.seq
        (.reg none [⟨(some 22), .load (some 2) (.t 2), none⟩,
          ⟨(some 23), .call 75 [(.t 22)], none⟩,
          ⟨(some 24), .bin .eql (.t 23) (.c (.int .i64 1)), none⟩,
          ⟨(some 21), .mv (.t 24), none⟩])
        (.cond (.t 21)
         (.seq
          (.reg none [⟨(some 25), .build [(.int .i64 0), .nils] [], none⟩,
            ⟨none, .store 2 (.t 4) (.t 25), none⟩,
            ⟨(some 5), .mv (.c (.int .i64 4)), none⟩])
          .ret)
         .skip)))))
    (.seq
     (.reg none [⟨(some 26), .load (some 2) (.t 2), none⟩,
       ⟨(some 27), .mkfn 79 [] [(.t 3)], none⟩,
       ⟨(some 28), .call 77 [(.t 26), (.t 27)], none⟩,
       ⟨none, .store 2 (.t 4) (.t 28), none⟩,
       ⟨(some 5), .mv (.c (.int .i64 0)), none⟩])
     .ret))) }
theorem f33P : prepF C Try.f33 = some f33A := by kernel_rfl

/-- congou/arrays.Rename -/
def f34A : AFunc :=
{ nargs := 3, res := [.c 6 (some 2), .t 7], body :=
  (.seq
   (.reg none [⟨(some 3), .box (.t 0), none⟩,
     ⟨(some 4), .box (.t 1), none⟩,
     ⟨(some 5), .box (.t 2), none⟩,
     ⟨(some 6), .alloc [(.int .i64 0), .nils], none⟩,
     ⟨(some 7), .mv (.c (.int .i64 0)), none⟩])
   (.seq
    (.seq
     (.reg (some []) [⟨(some 9), .load (some 2) (.t 3), none⟩,
       ⟨(some 10), .call 74 [(.t 9)], none⟩,
       ⟨(some 11), .un .not (.t 10), none⟩,
       ⟨(some 12), .mv (.t 11), none⟩,
       ⟨(some 13), .load none (.t 4), some (12, false)⟩,
       ⟨(some 14), .bin .lss (.t 13) (.c (.int .i64 0)), some (12, false)⟩,
       ⟨(some 15), .pick (.t 12) (.c (.b true)) (.t 14), none⟩,
       ⟨(some 16), .mv (.t 15), none⟩,
       ⟨(some 17), .load none (.t 4), some (16, false)⟩,
       ⟨(some 18), .load (some 2) (.t 3), some (16, false)⟩,
       ⟨(some 19), .call 75 [(.t 18)], some (16, false)⟩,
       ⟨(some 20), .bin .geq (.t 17) (.t 19), some (16, false)⟩,
       ⟨(some 21), .pick (.t 16) (.c (.b true)) (.t 20), none⟩,
       ⟨(some 22), .mv (.t 21), none⟩,
       ⟨(some 23), .load none (.t 5), some (22, false)⟩,
       ⟨(some 24), .len (.t 23), some (22, false)⟩,
       ⟨(some 25), .faddr 0 (.t 3), some (22, false)⟩,
       ⟨(some 26), .load none (.t 25), some (22, false)⟩,
       ⟨(some 27), .bin .neq (.t 24) (.t 26), some (22, false)⟩,
       ⟨(some 28), .pick (.t 22) (.c (.b true)) (.t 27), none⟩])
     (.cond (.t 28)
      (.seq
       (.reg none [⟨(some 29), .build [(.int .i64 0), .nils] [], none⟩,
         ⟨none, .store 2 (.t 6) (.t 29), none⟩,
         ⟨(some 7), .mv (.c (.int .i64 2)), none⟩])
       .ret)
      .skip))
    (.seq
     (.seq
      (.reg none [⟨(some 30), .load none (.t 5), none⟩,
        ⟨(some 31), .len (.t 30), none⟩,
        ⟨(some 32), .mv (.c (.int .i64 0)), none⟩])
      (.block 0
       (.loop
        (.seq
         (.reg none [⟨(some 33), .bin .lss (.t 32) (.t 31), none⟩])
         (.seq
          (.cond (.t 33)
           .skip
           (.exit 0))
          (.seq
           (.block 1
            (.seq
             (.reg none [⟨(some 34), .mv (.t 32), none⟩,
               ⟨(some 8), .mv (.t 34), none⟩])
             (.seq
              (.reg none [⟨(some 35), .load none (.t 5), none⟩,
                ⟨(some 36), .mv (.t 8), none⟩,
                ⟨(some 37), .call 62 [(.t 35), (.t 36)], none⟩,
                ⟨(some 38), .un .not (.t 37), none⟩])
              (.cond (.t 38)
               (.seq
                (.reg none [⟨(some 39), .build [(.int .i64 0), .nils] [], none⟩,
                  ⟨none, .store 2 (.t 6) (.t 39), none⟩,
                  ⟨(some 7), .mv (.c (.int .i64 2)), none⟩])
                .ret)
               .skip))))
           (.reg none [⟨(some 40), .bin .add (.t 32) (.c (.int .i64 1)), none⟩,
             ⟨(some 32), .mv (.t 40), none⟩])))))))
     (.seq
      (.reg none [⟨(some 41), .load (some 2) (.t 3), none⟩,
        ⟨(some 42), .mkfn 81 [] [(.t 5), (.t 4)], none⟩,
        ⟨(some 43), .call 77 [(.t 41), (.t 42)], none⟩,
        ⟨none, .store 2 (.t 6) (.t 43), none⟩,
        ⟨(some 7), .mv (.c (.int .i64 0)), none⟩])
      .ret)))) }
theorem f34P : prepF C Try.f34 = some f34A := by kernel_rfl

/-- congou/congoulaw09.list -/
def f35A : AFunc :=
{ nargs := 1, res := [.t 2], body :=
  (.seq
   (.reg none [⟨(some 2), .mv (.c .nils), none⟩])
   (.seq
    (.reg none [⟨(some 3), .mv (.t 0), none⟩,
      ⟨(some 4), .mv (.t 0), none⟩,
      ⟨(some 5), .len (.t 4), none⟩,
      ⟨(some 6), .mn [(.t 5), (.c (.int .i64 11))], none⟩,
      ⟨(some 7), .slice 1 (.t 3) none (some (.t 6)) none, none⟩,
      ⟨(some 8), .call 82 [(.t 7)], none⟩,
      ⟨(some 2), .mv (.t 8), none⟩])
    .ret)) }
theorem f35P : prepF C Try.f35 = some f35A := by kernel_rfl

/-- congou/congouref09.Alike -/
def f36A : AFunc :=
{ nargs := 2, res := [.t 4], body :=
  (.seq
   (.reg none [⟨(some 2), .box (.t 0), none⟩,
     ⟨(some 3), .box (.t 1), none⟩,
     ⟨(some 4), .mv (.c (.b false)), none⟩])
   (.seq
    (.reg (some []) [⟨(some 5), .load (some 2) (.t 2), none⟩,
      ⟨(some 6), .call 38 [(.t 5)], none⟩,
      ⟨(some 7), .mv (.t 6), none⟩,
      ⟨(some 8), .load (some 2) (.t 3), some (7, true)⟩,
      ⟨(some 9), .call 38 [(.t 8)], some (7, true)⟩,
      ⟨(some 10), .pick (.t 7) (.t 9) (.c (.b false)), none⟩,
      ⟨(some 11), .mv (.t 10), none⟩,
      ⟨(some 12), .faddr 0 (.t 2), some (11, true)⟩,
      ⟨(some 13), .load none (.t 12), some (11, true)⟩,
      ⟨(some 14), .faddr 0 (.t 3), some (11, true)⟩,
      ⟨(some 15), .load none (.t 14), some (11, true)⟩,
      ⟨(some 16), .bin .eql (.t 13) (.t 15), some (11, true)⟩,
      ⟨(some 17), .pick (.t 11) (.t 16) (.c (.b false)), none⟩,
      ⟨(some 18), .mv (.t 17), none⟩,
      ⟨(some 19), .load (some 2) (.t 2), some (18, true)⟩,
      ⟨(some 20), .call 39 [(.t 19)], some (18, true)⟩,
      ⟨(some 21), .load (some 2) (.t 3), some (18, true)⟩,
      ⟨(some 22), .call 39 [(.t 21)], some (18, true)⟩,
      ⟨(some 23), .bin .eql (.t 20) (.t 22), some (18, true)⟩,
      ⟨(some 24), .pick (.t 18) (.t 23) (.c (.b false)), none⟩,
      ⟨(some 4), .mv (.t 24), none⟩])
    .ret)) }
theorem f36P : prepF C Try.f36 = some f36A := by kernel_rfl

/-- congou/congouref09.Valid -/
def f38A : AFunc :=
{ nargs := 1, res := [.t 2], body :=
  (.seq
   (.reg none [⟨(some 1), .box (.t 0), none⟩,
     ⟨(some 2), .mv (.c (.b false)), none⟩])
   (.seq
    (.seq
     (.reg none [⟨(some 7), .faddr 0 (.t 1), none⟩,
       ⟨(some 8), .load none (.t 7), none⟩,
       ⟨(some 9), .bin .lss (.t 8) (.c (.int .i64 2)), none⟩,
       ⟨(some 10), .mv (.t 9), none⟩,
       ⟨(some 11), .faddr 0 (.t 1), some (10, false)⟩,
       ⟨(some 12), .load none (.t 11), some (10, false)⟩,
       ⟨(some 13), .bin .gtr (.t 12) (.c (.int .i64 4)), some (10, false)⟩,
       ⟨(some 14), .pick (.t 10) (.c (.b true)) (.t 13), none⟩,
       ⟨(some 15), .mv (.t 14), none⟩,
       ⟨(some 16), .faddr 1 (.t 1), some (15, false)⟩,
       ⟨(some 17), .load none (.t 16), some (15, false)⟩,
       ⟨(some 18), .len (.t 17), some (15, false)⟩,
       ⟨(some 19), .bin .lss (.t 18) (.c (.int .i64 1)), some (15, false)⟩,
       ⟨(some 20), .pick (.t 15) (.c (.b true)) (.t 19), none⟩,
       ⟨(some 21), .mv (.t 20), none⟩,
       ⟨(some 22), .faddr 1 (.t 1), some (21, false)⟩,
       ⟨(some 23), .load none (.t 22), some (21, false)⟩,
       ⟨(some 24), .len (.t 23), some (21, false)⟩,
       ⟨(some 25), .bin .gtr (.t 24) (.c (.int .i64 16)), some (21, false)⟩,
       ⟨(some 26), .pick (.t 21) (.c (.b true)) (.t 25), none⟩])
     (.cond (.t 26)
      (.seq
       (.reg none [⟨(some 2), .mv (.c (.b false)), none⟩])
       .ret)
      .skip))
    (.seq
     (.seq
      (.reg none [⟨(some 27), .faddr 1 (.t 1), none⟩,
        ⟨(some 28), .load none (.t 27), none⟩,
        ⟨(some 29), .len (.t 28), none⟩,
        ⟨(some 30), .mv (.c (.int .i64 0)), none⟩])
      (.block 0
       (.loop
        (.seq
         (.reg none [⟨(some 31), .bin .lss (.t 30) (.t 29), none⟩])
         (.seq
          (.cond (.t 31)
           .skip
           (.exit 0))
          (.seq
           (.block 1
            (.seq
             (.reg none [⟨(some 32), .iaddr 1 (.t 28) (.t 30), none⟩,
               ⟨(some 33), .load none (.t 32), none⟩,
               ⟨(some 4), .mv (.t 33), none⟩])
             (.seq
              (.seq
               (.reg none [⟨(some 34), .mv (.t 4), none⟩,
                 ⟨(some 35), .len (.t 34), none⟩,
                 ⟨(some 36), .faddr 1 (.t 1), none⟩,
                 ⟨(some 37), .load none (.t 36), none⟩,
                 ⟨(some 38), .iaddr 1 (.t 37) (.c (.int .i64 0)), none⟩,
                 ⟨(some 39), .load none (.t 38), none⟩,
                 ⟨(some 40), .len (.t 39), none⟩,
                 ⟨(some 41), .bin .neq (.t 35) (.t 40), none⟩,
                 ⟨(some 42), .mv (.t 41), none⟩,
                 ⟨(some 43), .mv (.t 4), some (42, false)⟩,
                 ⟨(some 44), .len (.t 43), some (42, false)⟩,
                 ⟨(some 45), .bin .lss (.t 44) (.c (.int .i64 1)), some (42, false)⟩,
                 ⟨(some 46), .pick (.t 42) (.c (.b true)) (.t 45), none⟩,
                 ⟨(some 47), .mv (.t 46), none⟩,
                 ⟨(some 48), .mv (.t 4), some (47, false)⟩,
                 ⟨(some 49), .len (.t 48), some (47, false)⟩,
                 ⟨(some 50), .bin .gtr (.t 49) (.c (.int .i64 8)), some (47, false)⟩,
                 ⟨(some 51), .pick (.t 47) (.c (.b true)) (.t 50), none⟩])
               (.cond (.t 51)
                (.seq
                 (.reg none [⟨(some 2), .mv (.c (.b false)), none⟩])
                 .ret)
                .skip))
              (.seq
               (.reg none [⟨(some 52), .mv (.t 4), none⟩,
                 ⟨(some 53), .len (.t 52), none⟩,
                 ⟨(some 54), .mv (.c (.int .i64 0)), none⟩])
               (.block 2
                (.loop
                 (.seq
                  (.reg none [⟨(some 55), .bin .lss (.t 54) (.t 53), none⟩])
                  (.seq
                   (.cond (.t 55)
                    .skip
                    (.exit 2))
                   (.seq
                    (.block 3
                     (.seq
                      (.reg none [⟨(some 56), .iaddr 1 (.t 52) (.t 54), none⟩,
                        ⟨(some 57), .load none (.t 56), none⟩,
                        ⟨(some 6), .mv (.t 57), none⟩])
                      (.seq
                       (.reg none [⟨(some 58), .mv (.t 6), none⟩,
                         ⟨(some 59), .bin .lss (.t 58) (.c (.int .i64 0)), none⟩,
                         ⟨(some 60), .mv (.t 59), none⟩,
                         ⟨(some 61), .mv (.t 6), some (60, false)⟩,
                         ⟨(some 62), .faddr 0 (.t 1), some (60, false)⟩,
                         ⟨(some 63), .load none (.t 62), some (60, false)⟩,
                         ⟨(some 64), .bin .geq (.t 61) (.t 63), some (60, false)⟩,
                         ⟨(some 65), .pick (.t 60) (.c (.b true)) (.t 64), none⟩])
                       (.cond (.t 65)
                        (.seq
                         (.reg none [⟨(some 2), .mv (.c (.b false)), none⟩])
                         .ret)
                        .skip))))
                    (.reg none [⟨(some 66), .bin .add (.t 54) (.c (.int .i64 1)), none⟩,
                      ⟨(some 54), .mv (.t 66), none⟩]))))))))))
           (.reg none [⟨(some 67), .bin .add (.t 30) (.c (.int .i64 1)), none⟩,
             ⟨(some 30), .mv (.t 67), none⟩])))))))
     (.seq
      (.reg none [⟨(some 2), .mv (.c (.b true)), none⟩])
      .ret)))) }
theorem f38P : prepF C Try.f38 = some f38A := by kernel_rfl

/-- congou/congouref09.Width -/
def f39A : AFunc :=
{ nargs := 1, res := [.t 2], body :=
  (.seq
   (.reg none [⟨(some 1), .box (.t 0), none⟩,
     ⟨(some 2), .mv (.c (.int .i64 0)), none⟩])
   (.seq
    (.reg none [⟨(some 3), .faddr 1 (.t 1), none⟩,
      ⟨(some 4), .load none (.t 3), none⟩,
      ⟨(some 5), .iaddr 1 (.t 4) (.c (.int .i64 0)), none⟩,
      ⟨(some 6), .load none (.t 5), none⟩,
      ⟨(some 7), .len (.t 6), none⟩,
      ⟨(some 2), .mv (.t 7), none⟩])
    .ret)) }
theorem f39P : prepF C Try.f39 = some f39A := by kernel_rfl

/-- congou/congouref09.Names -/
def f41A : AFunc :=
{ nargs := 2, res := [.t 4], body :=
  (.seq
   (.reg none [⟨(some 4), .mv (.c (.b false)), none⟩])
   (.seq
    (.reg none [⟨(some 5), .mv (.c (.int .i64 0)), none⟩])
    (.seq
     (.seq
      (.reg none [⟨(some 8), .mv (.t 1), none⟩,
        ⟨(some 9), .len (.t 8), none⟩,
        ⟨(some 10), .mv (.c (.int .i64 0)), none⟩])
      (.block 0
       (.loop
        (.seq
         (.reg none [⟨(some 11), .bin .lss (.t 10) (.t 9), none⟩])
         (.seq
          (.cond (.t 11)
           .skip
           (.exit 0))
          (.seq
           (.block 1
            (.seq
             (.reg none [⟨(some 12), .iaddr 1 (.t 8) (.t 10), none⟩,
               ⟨(some 13), .load none (.t 12), none⟩,
               ⟨(some 7), .mv (.t 13), none⟩])
             (.seq
              (.seq
               (.reg none [⟨(some 14), .mv (.t 7), none⟩,
                 ⟨(some 15), .bin .lss (.t 14) (.c (.int .i64 0)), none⟩,
                 ⟨(some 16), .mv (.t 15), none⟩,
                 ⟨(some 17), .mv (.t 7), some (16, false)⟩,
                 ⟨(some 18), .mv (.t 0), some (16, false)⟩,
                 ⟨(some 19), .bin .geq (.t 17) (.t 18), some (16, false)⟩,
                 ⟨(some 20), .pick (.t 16) (.c (.b true)) (.t 19), none⟩,
                 ⟨(some 21), .mv (.t 20), none⟩,
                 ⟨(some 22), .mv (.t 5), some (21, false)⟩,
                 ⟨(some 23), .mv (.t 7), some (21, false)⟩,
                 ⟨(some 24), .bin .shr (.t 22) (.t 23), some (21, false)⟩,
                 ⟨(some 25), .bin .and (.t 24) (.c (.int .i64 1)), some (21, false)⟩,
                 ⟨(some 26), .bin .eql (.t 25) (.c (.int .i64 1)), some (21, false)⟩,
                 ⟨(some 27), .pick (.t 21) (.c (.b true)) (.t 26), none⟩])
               (.cond (.t 27)
                (.seq
                 (.reg none [⟨(some 4), .mv (.c (.b false)), none⟩])
                 .ret)
                .skip))
              (.reg none [⟨(some 28), .mv (.t 5), none⟩,
                ⟨(some 29), .mv (.t 7), none⟩,
                ⟨(some 30), .bin .shl (.c (.int .i64 1)) (.t 29), none⟩,
                ⟨(some 31), .bin .or (.t 28) (.t 30), none⟩,
                ⟨(some 5), .mv (.t 31), none⟩]))))
           (.reg none [⟨(some 32), .bin .add (.t 10) (.c (.int .i64 1)), none⟩,
             ⟨(some 10), .mv (.t 32), none⟩])))))))
     (.seq
      (.reg none [⟨(some 33), .mv (.t 1), none⟩,
        ⟨(some 34), .len (.t 33), none⟩,
        ⟨(some 35), .mv (.t 0), none⟩,
        ⟨(some 36), .bin .eql (.t 34) (.t 35), none⟩,
        ⟨(some 4), .mv (.t 36), none⟩])
      .ret)))) }
theorem f41P : prepF C Try.f41 = some f41A := by kernel_rfl

/-- congou/arrays.Covers -/
def f46A : AFunc :=
{ nargs := 2, res := [.c 4 none, .c 5 none], body :=
  (.seq
   (.reg none [⟨(some 2), .box (.t 0), none⟩,
     ⟨(some 4), .alloc [(.b false)], none⟩,
     ⟨(some 5), .alloc [(.int .i64 0)], none⟩])
   (.seq
    (.seq
     (.reg none [⟨(some 8), .load (some 2) (.t 2), none⟩,
       ⟨(some 9), .mv (.t 1), none⟩,
       ⟨(some 10), .call 86 [(.t 8), (.t 9), (.c (.int .i64 3))], none⟩,
       ⟨(some 11), .un .not (.t 10), none⟩])
     (.cond (.t 11)
      (.seq
       (.reg none [⟨none, .store 1 (.t 4) (.c (.b false)), none⟩,
         ⟨none, .store 1 (.t 5) (.c (.int .i64 2)), none⟩])
       .ret)
      .skip))
    (.seq
     (.seq
      (.reg none [⟨(some 12), .load (some 2) (.t 2), none⟩,
        ⟨(some 13), .mv (.t 1), none⟩,
        ⟨(some 14), .call 87 [(.t 12), (.t 13)], none⟩])
      (.block 0
       (.rangeF 19 (.t 14) [15, 16]
        (.reg none [⟨(some 7), .mv (.t 16), none⟩])
        (.block 1
         (.seq
          (.reg none [⟨(some 17), .mv (.t 7), none⟩,
            ⟨(some 18), .bin .eql (.t 17) (.c (.int .i64 0)), none⟩])
          (.cond (.t 18)
           (.seq
            (.reg none [⟨none, .store 1 (.t 4) (.c (.b false)), none⟩,
              ⟨none, .store 1 (.t 5) (.c (.int .i64 0)), none⟩])
            .ret)
           .skip))))))
     (.seq
      (.reg none [⟨none, .store 1 (.t 4) (.c (.b true)), none⟩,
        ⟨none, .store 1 (.t 5) (.c (.int .i64 0)), none⟩])
      .ret)))) }
theorem f46P : prepF C Try.f46 = some f46A := by kernel_rfl

/-- congou/arrays.Distance -/
def f47A : AFunc :=
{ nargs := 1, res := [.t 2, .t 3], body :=
  (.seq
   (.reg none [⟨(some 1), .box (.t 0), none⟩,
     ⟨(some 2), .mv (.c (.int .i64 0)), none⟩,
     ⟨(some 3), .mv (.c (.int .i64 0)), none⟩])
   (.seq
    (.block 0
     (.seq
      (.reg none [⟨(some 12), .load (some 2) (.t 1), none⟩,
        ⟨(some 13), .call 74 [(.t 12)], none⟩,
        ⟨(some 14), .un .not (.t 13), none⟩,
        ⟨(some 11), .mv (.t 14), none⟩])
      (.cond (.t 11)
       (.seq
        (.reg none [⟨(some 2), .mv (.c (.int .i64 0)), none⟩,
          ⟨(some 3), .mv (.c (.int .i64 2)), none⟩])
        .ret)
       (.seq
        (.reg none [⟨(some 16), .faddr 1 (.t 1), none⟩,
          ⟨(some 17), .load none (.t 16), none⟩,
          ⟨(some 18), .len (.t 17), none⟩,
          ⟨(some 19), .bin .eql (.t 18) (.c (.int .i64 1)), none⟩,
          ⟨(some 15), .mv (.t 19), none⟩])
        (.cond (.t 15)
         (.seq
          (.reg none [⟨(some 2), .mv (.c (.int .i64 0)), none⟩,
            ⟨(some 3), .mv (.c (.int .i64 4)), none⟩])
          .ret)
         .skip)))))
    (.seq
     (.reg none [⟨(some 20), .load (some 2) (.t 1), none⟩,
       ⟨(some 21), .call 75 [(.t 20)], none⟩,
       ⟨(some 4), .mv (.t 21), none⟩])
     (.seq
      (.seq
       (.reg none [⟨(some 22), .faddr 1 (.t 1), none⟩,
         ⟨(some 23), .load none (.t 22), none⟩,
         ⟨(some 24), .len (.t 23), none⟩,
         ⟨(some 25), .mv (.c (.int .i64 0)), none⟩])
       (.block 1
        (.loop
         (.seq
          (.reg none [⟨(some 26), .bin .lss (.t 25) (.t 24), none⟩])
          (.seq
           (.cond (.t 26)
            .skip
            (.exit 1))
           (.seq
            (.block 2
             (.seq
              (.reg none [⟨(some 27), .mv (.t 25), none⟩,
                ⟨(some 28), .iaddr 1 (.t 23) (.t 25), none⟩,
                ⟨(some 29), .load none (.t 28), none⟩,
                ⟨(some 5), .mv (.t 27), none⟩,
                ⟨(some 6), .mv (.t 29), none⟩])
              (.seq
               (.reg none [⟨(some 30), .faddr 1 (.t 1), none⟩,
                 ⟨(some 31), .load none (.t 30), none⟩,
                 ⟨(some 32), .mv (.t 5), none⟩,
                 ⟨(some 33), .slice 1 (.t 31) none (some (.t 32)) none, none⟩,
                 ⟨(some 34), .len (.t 33), none⟩,
                 ⟨(some 35), .mv (.c (.int .i64 0)), none⟩])
               (.block 3
                (.loop
                 (.seq
                  (.reg none [⟨(some 36), .bin .lss (.t 35) (.t 34), none⟩])
                  (.seq
                   (.cond (.t 36)
                    .skip
                    (.exit 3))
                   (.seq
                    (.block 4
                     (.seq
                      (.reg none [⟨(some 37), .iaddr 1 (.t 33) (.t 35), none⟩,
                        ⟨(some 38), .load none (.t 37), none⟩,
                        ⟨(some 8), .mv (.t 38), none⟩])
                      (.seq
                       (.reg none [⟨(some 9), .mv (.c (.int .i64 0)), none⟩])
                       (.seq
                        (.seq
                         (.reg none [⟨(some 39), .mv (.t 6), none⟩,
                           ⟨(some 40), .len (.t 39), none⟩,
                           ⟨(some 41), .mv (.c (.int .i64 0)), none⟩])
                         (.block 5
                          (.loop
                           (.seq
                            (.reg none [⟨(some 42), .bin .lss (.t 41) (.t 40), none⟩])
                            (.seq
                             (.cond (.t 42)
                              .skip
                              (.exit 5))
                             (.seq
                              (.block 6
                               (.seq
                                (.reg none [⟨(some 43), .mv (.t 41), none⟩,
                                  ⟨(some 10), .mv (.t 43), none⟩])
                                (.seq
                                 (.reg (some []) [⟨(some 44), .mv (.t 6), none⟩,
                                   ⟨(some 45), .mv (.t 10), none⟩,
                                   ⟨(some 46), .iaddr 1 (.t 44) (.t 45), none⟩,
                                   ⟨(some 47), .load none (.t 46), none⟩,
                                   ⟨(some 48), .mv (.t 8), none⟩,
                                   ⟨(some 49), .mv (.t 10), none⟩,
                                   ⟨(some 50), .iaddr 1 (.t 48) (.t 49), none⟩,
                                   ⟨(some 51), .load none (.t 50), none⟩,
                                   ⟨(some 52), .bin .neq (.t 47) (.t 51), none⟩])
                                 (.cond (.t 52)
                                  (.reg none [⟨(some 53), .mv (.t 9), none⟩,
                                    ⟨(some 54), .bin .add (.t 53) (.c (.int .i64 1)), none⟩,
                                    ⟨(some 9), .mv (.t 54), none⟩])
                                  .skip))))
                              (.reg none [⟨(some 55), .bin .add (.t 41) (.c (.int .i64 1)), none⟩,
                                ⟨(some 41), .mv (.t 55), none⟩])))))))
                        (.reg none [⟨(some 56), .mv (.t 4), none⟩,
                          ⟨(some 57), .mv (.t 9), none⟩,
                          ⟨(some 58), .mn [(.t 56), (.t 57)], none⟩,
                          ⟨(some 4), .mv (.t 58), none⟩])))))
                    (.reg none [⟨(some 59), .bin .add (.t 35) (.c (.int .i64 1)), none⟩,
                      ⟨(some 35), .mv (.t 59), none⟩])))))))))
            (.reg none [⟨(some 60), .bin .add (.t 25) (.c (.int .i64 1)), none⟩,
              ⟨(some 25), .mv (.t 60), none⟩])))))))
      (.seq
       (.reg none [⟨(some 61), .mv (.t 4), none⟩,
         ⟨(some 2), .mv (.t 61), none⟩,
         ⟨(some 3), .mv (.c (.int .i64 0)), none⟩])
       .ret))))) }
theorem f47P : prepF C Try.f47 = some f47A := by kernel_rfl

/-- congou/congouref09.Deep -/
def f52A : AFunc :=
{ nargs := 2, res := [.t 4], body :=
  (.seq
   (.reg none [⟨(some 2), .box (.t 0), none⟩,
     ⟨(some 4), .mv (.c (.b false)), none⟩])
   (.seq
    (.reg none [⟨(some 5), .load (some 2) (.t 2), none⟩,
      ⟨(some 6), .call 38 [(.t 5)], none⟩,
      ⟨(some 7), .mv (.t 6), none⟩,
      ⟨(some 8), .mv (.t 1), some (7, true)⟩,
      ⟨(some 9), .bin .geq (.t 8) (.c (.int .i64 1)), some (7, true)⟩,
      ⟨(some 10), .pick (.t 7) (.t 9) (.c (.b false)), none⟩,
      ⟨(some 11), .mv (.t 10), none⟩,
      ⟨(some 12), .mv (.t 1), some (11, true)⟩,
      ⟨(some 13), .bin .leq (.t 12) (.c (.int .i64 3)), some (11, true)⟩,
      ⟨(some 14), .pick (.t 11) (.t 13) (.c (.b false)), none⟩,
      ⟨(some 15), .mv (.t 14), none⟩,
      ⟨(some 16), .mv (.t 1), some (15, true)⟩,
      ⟨(some 17), .load (some 2) (.t 2), some (15, true)⟩,
      ⟨(some 18), .call 39 [(.t 17)], some (15, true)⟩,
      ⟨(some 19), .bin .leq (.t 16) (.t 18), some (15, true)⟩,
      ⟨(some 20), .pick (.t 15) (.t 19) (.c (.b false)), none⟩,
      ⟨(some 4), .mv (.t 20), none⟩])
    .ret)) }
theorem f52P : prepF C Try.f52 = some f52A := by kernel_rfl

/-- congou/arrays.Fair -/
def f57A : AFunc :=
{ nargs := 2, res := [.t 4, .t 5], body :=
  (.seq
   (.reg none [⟨(some 2), .box (.t 0), none⟩,
     ⟨(some 4), .mv (.c (.b false)), none⟩,
     ⟨(some 5), .mv (.c (.int .i64 0)), none⟩])
   (.seq
    (.seq
     (.reg none [⟨(some 6), .load (some 2) (.t 2), none⟩,
       ⟨(some 7), .mv (.t 1), none⟩,
       ⟨(some 8), .call 86 [(.t 6), (.t 7), (.c (.int .i64 3))], none⟩,
       ⟨(some 9), .un .not (.t 8), none⟩])
     (.cond (.t 9)
      (.seq
       (.reg none [⟨(some 4), .mv (.c (.b false)), none⟩,
         ⟨(some 5), .mv (.c (.int .i64 2)), none⟩])
       .ret)
      .skip))
    (.seq
     (.reg none [⟨(some 10), .load (some 2) (.t 2), none⟩,
       ⟨(some 11), .mv (.t 1), none⟩,
       ⟨(some 12), .call 88 [(.t 10), (.t 11)], none⟩,
       ⟨(some 13), .bin .gtr (.t 12) (.c (.int .i64 0)), none⟩,
       ⟨(some 4), .mv (.t 13), none⟩,
       ⟨(some 5), .mv (.c (.int .i64 0)), none⟩])
     .ret))) }
theorem f57P : prepF C Try.f57 = some f57A := by kernel_rfl

/-- slices.Contains[[]int,int] -/
def f62A : AFunc :=
{ nargs := 2, res := [.t 4], body :=
  (.seq
   (.reg none [⟨(some 4), .mv (.c (.b false)), none⟩])
   (.seq
    (.reg none [⟨(some 5), .mv (.t 0), none⟩,
      ⟨(some 6), .mv (.t 1), none⟩,
      ⟨(some 7), .call 92 [(.t 5), (.t 6)], none⟩,
      ⟨(some 8), .bin .geq (.t 7) (.c (.int .i64 0)), none⟩,
      ⟨(some 4), .mv (.t 8), none⟩])
    .ret)) }
theorem f62P : prepF C Try.f62 = some f62A := by kernel_rfl

/-- congou/arrays.tuples -/
def f72A : AFunc :=
{ nargs := 3, res := [.t 6], body :=
  (.seq
   (.reg none [⟨(some 3), .box (.t 0), none⟩,
     ⟨(some 4), .box (.t 1), none⟩,
     ⟨(some 5), .box (.t 2), none⟩,
     ⟨(some 6), .mv (.c .nilf), none⟩])
   (.seq
    (.reg none [⟨(some 7), .mkfn 96 [] [(.t 3), (.t 5), (.t 4)], none⟩,
      ⟨(some 6), .mv (.t 7), none⟩])
    .ret)) }
theorem f72P : prepF C Try.f72 = some f72A := by kernel_rfl

/-- (congou/arrays.Array).valid -/
def f74A : AFunc :=
{ nargs := 1, res := [.t 2], body :=
  (.seq
   (.reg none [⟨(some 1), .box (.t 0), none⟩,
     ⟨(some 2), .mv (.c (.b false)), none⟩])
   (.seq
    (.seq
     (.reg none [⟨(some 5), .faddr 0 (.t 1), none⟩,
       ⟨(some 6), .load none (.t 5), none⟩,
       ⟨(some 7), .bin .lss (.t 6) (.c (.int .i64 2)), none⟩,
       ⟨(some 8), .mv (.t 7), none⟩,
       ⟨(some 9), .faddr 0 (.t 1), some (8, false)⟩,
       ⟨(some 10), .load none (.t 9), some (8, false)⟩,
       ⟨(some 11), .bin .gtr (.t 10) (.c (.int .i64 4)), some (8, false)⟩,
       ⟨(some 12), .pick (.t 8) (.c (.b true)) (.t 11), none⟩,
       ⟨(some 13), .mv (.t 12), none⟩,
       ⟨(some 14), .faddr 1 (.t 1), some (13, false)⟩,
       ⟨(some 15), .load none (.t 14), some (13, false)⟩,
       ⟨(some 16), .len (.t 15), some (13, false)⟩,
       ⟨(some 17), .bin .lss (.t 16) (.c (.int .i64 1)), some (13, false)⟩,
       ⟨(some 18), .pick (.t 13) (.c (.b true)) (.t 17), none⟩,
       ⟨(some 19), .mv (.t 18), none⟩,
       ⟨(some 20), .faddr 1 (.t 1), some (19, false)⟩,
       ⟨(some 21), .load none (.t 20), some (19, false)⟩,
       ⟨(some 22), .len (.t 21), some (19, false)⟩,
       ⟨(some 23), .bin .gtr (.t 22) (.c (.int .i64 16)), some (19, false)⟩,
       ⟨(some 24), .pick (.t 19) (.c (.b true)) (.t 23), none⟩])
     (.cond (.t 24)
      (.seq
       (.reg none [⟨(some 2), .mv (.c (.b false)), none⟩])
       .ret)
      .skip))
    (.seq
     (.seq
      (.reg none [⟨(some 25), .faddr 1 (.t 1), none⟩,
        ⟨(some 26), .load none (.t 25), none⟩,
        ⟨(some 27), .len (.t 26), none⟩,
        ⟨(some 28), .mv (.c (.int .i64 0)), none⟩])
      (.block 0
       (.loop
        (.seq
         (.reg none [⟨(some 29), .bin .lss (.t 28) (.t 27), none⟩])
         (.seq
          (.cond (.t 29)
           .skip
           (.exit 0))
          (.seq
           (.block 1
            (.seq
             (.reg none [⟨(some 30), .iaddr 1 (.t 26) (.t 28), none⟩,
               ⟨(some 31), .load none (.t 30), none⟩,
               ⟨(some 4), .mv (.t 31), none⟩])
             (.seq
              (.reg (some []) [⟨(some 32), .mv (.t 4), none⟩,
                ⟨(some 33), .len (.t 32), none⟩,
                ⟨(some 34), .bin .lss (.t 33) (.c (.int .i64 1)), none⟩,
                ⟨(some 35), .mv (.t 34), none⟩,
                ⟨(some 36), .mv (.t 4), some (35, false)⟩,
                ⟨(some 37), .len (.t 36), some (35, false)⟩,
                ⟨(some 38), .bin .gtr (.t 37) (.c (.int .i64 8)), some (35, false)⟩,
                ⟨(some 39), .pick (.t 35) (.c (.b true)) (.t 38), none⟩,
                ⟨(some 40), .mv (.t 39), none⟩,
                ⟨(some 41), .mv (.t 4), some (40, false)⟩,
                ⟨(some 42), .len (.t 41), some (40, false)⟩,
                ⟨(some 43), .faddr 1 (.t 1), some (40, false)⟩,
                ⟨(some 44), .load none (.t 43), some (40, false)⟩,
                ⟨(some 45), .iaddr 1 (.t 44) (.c (.int .i64 0)), some (40, false)⟩,
                ⟨(some 46), .load none (.t 45), some (40, false)⟩,
                ⟨(some 47), .len (.t 46), some (40, false)⟩,
                ⟨(some 48), .bin .neq (.t 42) (.t 47), some (40, false)⟩,
                ⟨(some 49), .pick (.t 40) (.c (.b true)) (.t 48), none⟩,
                ⟨(some 50), .mv (.t 49), none⟩,
                ⟨(some 51), .mv (.t 4), some (50, false)⟩,
                ⟨(some 52), .call 98 [(.t 51)], some (50, false)⟩,
                ⟨(some 53), .bin .lss (.t 52) (.c (.int .i64 0)), some (50, false)⟩,
                ⟨(some 54), .pick (.t 50) (.c (.b true)) (.t 53), none⟩,
                ⟨(some 55), .mv (.t 54), none⟩,
                ⟨(some 56), .mv (.t 4), some (55, false)⟩,
                ⟨(some 57), .call 99 [(.t 56)], some (55, false)⟩,
                ⟨(some 58), .faddr 0 (.t 1), some (55, false)⟩,
                ⟨(some 59), .load none (.t 58), some (55, false)⟩,
                ⟨(some 60), .bin .geq (.t 57) (.t 59), some (55, false)⟩,
                ⟨(some 61), .pick (.t 55) (.c (.b true)) (.t 60), none⟩])
              (.cond (.t 61)
               (.seq
                (.reg none [⟨(some 2), .mv (.c (.b false)), none⟩])
                .ret)
               .skip))))
           (.reg none [⟨(some 62), .bin .add (.t 28) (.c (.int .i64 1)), none⟩,
             ⟨(some 28), .mv (.t 62), none⟩])))))))
     (.seq
      (.reg none [⟨(some 2), .mv (.c (.b true)), none⟩])
      .ret)))) }
theorem f74P : prepF C Try.f74 = some f74A := by kernel_rfl

/-- (congou/arrays.Array).columns -/
def f75A : AFunc :=
{ nargs := 1, res := [.t 2], body :=
  (.seq
   (.reg none [⟨(some 1), .box (.t 0), none⟩,
     ⟨(some 2), .mv (.c (.int .i64 0)), none⟩])
   (.seq
    (.reg none [⟨(some 3), .faddr 1 (.t 1), none⟩,
      ⟨(some 4), .load none (.t 3), none⟩,
      ⟨(some 5), .iaddr 1 (.t 4) (.c (.int .i64 0)), none⟩,
      ⟨(some 6), .load none (.t 5), none⟩,
      ⟨(some 7), .len (.t 6), none⟩,
      ⟨(some 2), .mv (.t 7), none⟩])
    .ret)) }
theorem f75P : prepF C Try.f75 = some f75A := by kernel_rfl

/-- (congou/arrays.Array).each -/
def f77A : AFunc :=
{ nargs := 2, res := [.c 4 (some 2)], body :=
  (.seq
   (.reg none [⟨(some 2), .box (.t 0), none⟩,
     ⟨(some 4), .alloc [(.int .i64 0), .nils], none⟩])
   (.seq
    (.reg none [⟨(some 8), .faddr 0 (.t 2), none⟩,
      ⟨(some 9), .load none (.t 8), none⟩,
      ⟨(some 10), .build [(.int .i64 0), .nils] [(0, 1, (.t 9))], none⟩,
      ⟨(some 5), .alloc [(.int .i64 0), .nils], none⟩,
      ⟨none, .store 2 (.t 5) (.t 10), none⟩])
    (.seq
     (.seq
      (.reg none [⟨(some 11), .faddr 1 (.t 2), none⟩,
        ⟨(some 12), .load none (.t 11), none⟩,
        ⟨(some 13), .len (.t 12), none⟩,
        ⟨(some 14), .mv (.c (.int .i64 0)), none⟩])
      (.block 0
       (.loop
        (.seq
         (.reg none [⟨(some 15), .bin .lss (.t 14) (.t 13), none⟩])
         (.seq
          (.cond (.t 15)
           .skip
           (.exit 0))
          (.seq
           (.block 1
            (.seq
             (.reg none [⟨(some 16), .iaddr 1 (.t 12) (.t 14), none⟩,
               ⟨(some 17), .load none (.t 16), none⟩,
               ⟨(some 7), .mv (.t 17), none⟩])
             (.reg (some [(1, 5)]) [⟨(some 18), .faddr 1 (.t 5), none⟩,
               ⟨(some 19), .load none (.t 18), none⟩,
               ⟨(some 20), .mv (.t 1), none⟩,
               ⟨(some 21), .mv (.t 7), none⟩,
               ⟨(some 22), .call 82 [(.t 21)], none⟩,
               ⟨(some 23), .callv (.t 20) [(.t 22)], none⟩,
               ⟨(some 24), .bslice [.nils] 1 1 [(0, (.t 23))], none⟩,
               ⟨(some 25), .append 1 24 (.t 19) (.t 24), none⟩,
               ⟨(some 26), .faddr 1 (.t 5), none⟩,
               ⟨none, .store 1 (.t 26) (.t 25), none⟩])))
           (.reg none [⟨(some 27), .bin .add (.t 14) (.c (.int .i64 1)), none⟩,
             ⟨(some 14), .mv (.t 27), none⟩])))))))
     (.seq
      (.reg none [⟨(some 28), .load (some 2) (.t 5), none⟩,
        ⟨none, .store 2 (.t 4) (.t 28), none⟩])
      .ret)))) }
theorem f77P : prepF C Try.f77 = some f77A := by kernel_rfl

/-- congou/arrays.Drop$1 -/
def f79A : AFunc :=
{ nargs := 2, res := [.t 3], body :=
  (.seq
   (.reg none [⟨(some 3), .mv (.c .nils), none⟩])
   (.seq
    (.reg none [⟨(some 4), .mv (.t 0), none⟩,
      ⟨(some 5), .load none (.t 1), none⟩,
      ⟨(some 6), .load none (.t 1), none⟩,
      ⟨(some 7), .bin .add (.t 6) (.c (.int .i64 1)), none⟩,
      ⟨(some 8), .call 80 [(.t 4), (.t 5), (.t 7)], none⟩,
      ⟨(some 3), .mv (.t 8), none⟩])
    .ret)) }
theorem f79P : prepF C Try.f79 = some f79A := by kernel_rfl

/-- congou/arrays.Rename$1 -/
def f81A : AFunc :=
{ nargs := 3, res := [.t 4], body :=
  (.seq
   (.reg none [⟨(some 4), .mv (.c .nils), none⟩])
   (.seq
    (.reg (some []) [⟨(some 5), .mv (.t 0), none⟩,
      ⟨(some 6), .load none (.t 2), none⟩,
      ⟨(some 7), .load none (.t 1), none⟩,
      ⟨(some 8), .mv (.t 0), none⟩,
      ⟨(some 9), .load none (.t 2), none⟩,
      ⟨(some 10), .iaddr 1 (.t 8) (.t 9), none⟩,
      ⟨(some 11), .load none (.t 10), none⟩,
      ⟨(some 12), .iaddr 1 (.t 7) (.t 11), none⟩,
      ⟨(some 13), .load none (.t 12), none⟩,
      ⟨(some 14), .iaddr 1 (.t 5) (.t 6), none⟩,
      ⟨none, .store 1 (.t 14) (.t 13), none⟩])
    (.seq
     (.reg none [⟨(some 15), .mv (.t 0), none⟩,
       ⟨(some 4), .mv (.t 15), none⟩])
     .ret))) }
theorem f81P : prepF C Try.f81 = some f81A := by kernel_rfl

/-- slices.Clone[[]int,int] -/
def f82A : AFunc :=
{ nargs := 1, res := [.t 2], body :=
  (.seq
   (.reg none [⟨(some 2), .mv (.c .nils), none⟩])
   (.seq
    (.seq
     (.reg none [⟨(some 3), .mv (.t 0), none⟩,
       ⟨(some 4), .seq false (.t 3) (.c .nils), none⟩])
     (.cond (.t 4)
      (.seq
       (.reg none [⟨(some 2), .mv (.c .nils), none⟩])
       .ret)
      .skip))
    (.seq
     (.reg none [⟨(some 5), .bslice [(.int .i64 0)] 0 1 [], none⟩,
       ⟨(some 6), .mv (.t 0), none⟩,
       ⟨(some 7), .append 1 8 (.t 5) (.t 6), none⟩,
       ⟨(some 2), .mv (.t 7), none⟩])
     .ret))) }
theorem f82P : prepF C Try.f82 = some f82A := by kernel_rfl

/-- (congou/arrays.Array).strong -/
def f86A : AFunc :=
{ nargs := 3, res := [.t 6], body :=
  (.seq
   (.reg none [⟨(some 3), .box (.t 0), none⟩,
     ⟨(some 6), .mv (.c (.b false)), none⟩])
   (.seq
    (.reg none [⟨(some 7), .load (some 2) (.t 3), none⟩,
      ⟨(some 8), .call 74 [(.t 7)], none⟩,
      ⟨(some 9), .mv (.t 8), none⟩,
      ⟨(some 10), .mv (.t 1), some (9, true)⟩,
      ⟨(some 11), .bin .geq (.t 10) (.c (.int .i64 1)), some (9, true)⟩,
      ⟨(some 12), .pick (.t 9) (.t 11) (.c (.b false)), none⟩,
      ⟨(some 13), .mv (.t 12), none⟩,
      ⟨(some 14), .mv (.t 1), some (13, true)⟩,
      ⟨(some 15), .mv (.t 2), some (13, true)⟩,
      ⟨(some 16), .bin .leq (.t 14) (.t 15), some (13, true)⟩,
      ⟨(some 17), .pick (.t 13) (.t 16) (.c (.b false)), none⟩,
      ⟨(some 18), .mv (.t 17), none⟩,
      ⟨(some 19), .mv (.t 1), some (18, true)⟩,
      ⟨(some 20), .load (some 2) (.t 3), some (18, true)⟩,
      ⟨(some 21), .call 75 [(.t 20)], some (18, true)⟩,
      ⟨(some 22), .bin .leq (.t 19) (.t 21), some (18, true)⟩,
      ⟨(some 23), .pick (.t 18) (.t 22) (.c (.b false)), none⟩,
      ⟨(some 6), .mv (.t 23), none⟩])
    .ret)) }
theorem f86P : prepF C Try.f86 = some f86A := by kernel_rfl

/-- (congou/arrays.Array).all -/
def f87A : AFunc :=
{ nargs := 2, res := [.t 4], body :=
  (.seq
   (.reg none [⟨(some 2), .box (.t 0), none⟩,
     ⟨(some 3), .box (.t 1), none⟩,
     ⟨(some 4), .mv (.c .nilf), none⟩])
   (.seq
    (.reg none [⟨(some 5), .mkfn 102 [] [(.t 3), (.t 2)], none⟩,
      ⟨(some 4), .mv (.t 5), none⟩])
    .ret)) }
theorem f87P : prepF C Try.f87 = some f87A := by kernel_rfl

/-- (congou/arrays.Array).index -/
def f88A : AFunc :=
{ nargs := 2, res := [.c 4 none], body :=
  (.seq
   (.reg none [⟨(some 2), .box (.t 0), none⟩,
     ⟨(some 4), .alloc [(.int .i64 0)], none⟩])
   (.seq
    (.reg none [⟨(some 5), .alloc [(.int .i64 0)], none⟩,
      ⟨none, .store 1 (.t 5) (.c (.int .i64 (-1))), none⟩])
    (.seq
     (.seq
      (.reg none [⟨(some 8), .load (some 2) (.t 2), none⟩,
        ⟨(some 9), .mv (.t 1), none⟩,
        ⟨(some 10), .call 87 [(.t 8), (.t 9)], none⟩])
      (.block 0
       (.rangeF 20 (.t 10) [11, 12]
        (.reg none [⟨(some 7), .mv (.t 12), none⟩])
        (.block 1
         (.seq
          (.seq
           (.reg none [⟨(some 13), .load none (.t 5), none⟩,
             ⟨(some 14), .bin .lss (.t 13) (.c (.int .i64 0)), none⟩])
           (.cond (.t 14)
            (.reg none [⟨(some 15), .mv (.t 7), none⟩,
              ⟨none, .store 1 (.t 5) (.t 15), none⟩])
            .skip))
          (.seq
           (.reg none [⟨(some 16), .mv (.t 7), none⟩,
             ⟨(some 17), .load none (.t 5), none⟩,
             ⟨(some 18), .bin .neq (.t 16) (.t 17), none⟩])
           (.cond (.t 18)
            (.seq
             (.reg none [⟨none, .store 1 (.t 4) (.c (.int .i64 0)), none⟩])
             .ret)
            .skip)))))))
     (.seq
      (.reg none [⟨(some 19), .load none (.t 5), none⟩,
        ⟨none, .store 1 (.t 4) (.t 19), none⟩])
      .ret)))) }
theorem f88P : prepF C Try.f88 = some f88A := by kernel_rfl

/-- slices.Index[[]int,int] -/
def f92A : AFunc :=
{ nargs := 2, res := [.t 4], body :=
  (.seq
   (.reg none [⟨(some 4), .mv (.c (.int .i64 0)), none⟩])
   (.seq
    (.seq
     (.reg none [⟨(some 6), .mv (.t 0), none⟩,
       ⟨(some 7), .len (.t 6), none⟩,
       ⟨(some 8), .mv (.c (.int .i64 0)), none⟩])
     (.block 0
      (.loop
       (.seq
        (.reg none [⟨(some 9), .bin .lss (.t 8) (.t 7), none⟩])
        (.seq
         (.cond (.t 9)
          .skip
          (.exit 0))
         (.seq
          (.block 1
           (.seq
            (.reg none [⟨(some 10), .mv (.t 8), none⟩,
              ⟨(some 5), .mv (.t 10), none⟩])
            (.seq
             (.reg none [⟨(some 11), .mv (.t 1), none⟩,
               ⟨(some 12), .mv (.t 0), none⟩,
               ⟨(some 13), .mv (.t 5), none⟩,
               ⟨(some 14), .iaddr 1 (.t 12) (.t 13), none⟩,
               ⟨(some 15), .load none (.t 14), none⟩,
               ⟨(some 16), .bin .eql (.t 11) (.t 15), none⟩])
             (.cond (.t 16)
              (.seq
               (.reg none [⟨(some 17), .mv (.t 5), none⟩,
                 ⟨(some 4), .mv (.t 17), none⟩])
               .ret)
              .skip))))
          (.reg none [⟨(some 18), .bin .add (.t 8) (.c (.int .i64 1)), none⟩,
            ⟨(some 8), .mv (.t 18), none⟩])))))))
    (.seq
     (.reg none [⟨(some 4), .mv (.c (.int .i64 (-1))), none⟩])
     .ret))) }
theorem f92P : prepF C Try.f92 = some f92A := by kernel_rfl

/-- congou/arrays.tuples$1 -/
def f96A : AFunc :=
{ nargs := 4, res := [], body :=
  (.seq
   (.reg none [⟨(some 4), .box (.t 0), none⟩])
   (.seq
    (.reg none [⟨(some 5), .alloc [.nilf], none⟩])
    (.seq
     (.reg none [⟨(some 6), .mkfn 97 [] [(.t 1), (.t 4), (.t 2), (.t 3), (.t 5)], none⟩,
       ⟨none, .store 1 (.t 5) (.t 6), none⟩])
     (.reg none [⟨(some 7), .load none (.t 5), none⟩,
       ⟨(some 8), .callv (.t 7) [(.c .nils)], none⟩])))) }
theorem f96P : prepF C Try.f96 = some f96A := by kernel_rfl

/-- congou/arrays.tuples$1$1 -/
def f97A : AFunc :=
{ nargs := 6, res := [.t 7], body :=
  (.seq
   (.reg none [⟨(some 7), .mv (.c (.b false)), none⟩])
   (.seq
    (.seq
     (.reg none [⟨(some 10), .mv (.t 0), none⟩,
       ⟨(some 11), .len (.t 10), none⟩,
       ⟨(some 12), .load none (.t 1), none⟩,
       ⟨(some 13), .bin .eql (.t 11) (.t 12), none⟩])
     (.cond (.t 13)
      (.seq
       (.reg none [⟨(some 14), .load none (.t 2), none⟩,
         ⟨(some 15), .mv (.t 0), none⟩,
         ⟨(some 16), .callv (.t 14) [(.t 15)], none⟩,
         ⟨(some 7), .mv (.t 16), none⟩])
       .ret)
      .skip))
    (.seq
     (.reg none [⟨(some 8), .mv (.c (.int .i64 0)), none⟩])
     (.seq
      (.seq
       (.reg none [⟨(some 17), .load none (.t 3), none⟩,
         ⟨(some 18), .mv (.t 17), none⟩,
         ⟨(some 19), .mv (.t 0), some (18, true)⟩,
         ⟨(some 20), .len (.t 19), some (18, true)⟩,
         ⟨(some 21), .bin .gtr (.t 20) (.c (.int .i64 0)), some (18, true)⟩,
         ⟨(some 22), .pick (.t 18) (.t 21) (.c (.b false)), none⟩])
       (.cond (.t 22)
        (.reg none [⟨(some 23), .mv (.t 0), none⟩,
          ⟨(some 24), .mv (.t 0), none⟩,
          ⟨(some 25), .len (.t 24), none⟩,
          ⟨(some 26), .bin .sub (.t 25) (.c (.int .i64 1)), none⟩,
          ⟨(some 27), .iaddr 1 (.t 23) (.t 26), none⟩,
          ⟨(some 28), .load none (.t 27), none⟩,
          ⟨(some 29), .bin .add (.t 28) (.c (.int .i64 1)), none⟩,
          ⟨(some 8), .mv (.t 29), none⟩])
        .skip))
      (.seq
       (.seq
        (.reg none [⟨(some 30), .mv (.t 8), none⟩,
          ⟨(some 9), .mv (.t 30), none⟩])
        (.block 0
         (.loop
          (.seq
           (.seq
            (.reg none [⟨(some 31), .mv (.t 9), none⟩,
              ⟨(some 32), .load none (.t 4), none⟩,
              ⟨(some 33), .bin .lss (.t 31) (.t 32), none⟩])
            (.cond (.t 33)
             .skip
             (.exit 0)))
           (.seq
            (.block 1
             (.seq
              (.reg (some [(0, 9)]) [⟨(some 36), .load none (.t 5), none⟩,
                ⟨(some 37), .mv (.t 0), none⟩,
                ⟨(some 38), .mv (.t 0), none⟩,
                ⟨(some 39), .len (.t 38), none⟩,
                ⟨(some 40), .mv (.t 0), none⟩,
                ⟨(some 41), .len (.t 40), none⟩,
                ⟨(some 42), .slice 1 (.t 37) none (some (.t 39)) (some (.t 41)), none⟩,
                ⟨(some 43), .mv (.t 9), none⟩,
                ⟨(some 44), .bslice [(.int .i64 0)] 1 1 [(0, (.t 43))], none⟩,
                ⟨(some 45), .append 1 8 (.t 42) (.t 44), none⟩,
                ⟨(some 46), .callv (.t 36) [(.t 45)], none⟩,
                ⟨(some 47), .un .not (.t 46), none⟩])
              (.cond (.t 47)
               (.seq
                (.reg none [⟨(some 7), .mv (.c (.b false)), none⟩])
                .ret)
               .skip)))
            (.reg none [⟨(some 34), .mv (.t 9), none⟩,
              ⟨(some 35), .bin .add (.t 34) (.c (.int .i64 1)), none⟩,
              ⟨(some 9), .mv (.t 35), none⟩]))))))
       (.seq
        (.reg none [⟨(some 7), .mv (.c (.b true)), none⟩])
        .ret)))))) }
theorem f97P : prepF C Try.f97 = some f97A := by kernel_rfl

/-- slices.Min[[]int,int] -/
def f98A : AFunc :=
{ nargs := 1, res := [.t 2], body :=
  (.seq
   (.reg none [⟨(some 2), .mv (.c (.int .i64 0)), none⟩])
   (.seq
    (.seq
     (.reg none [⟨(some 5), .mv (.t 0), none⟩,
       ⟨(some 6), .len (.t 5), none⟩,
       ⟨(some 7), .bin .lss (.t 6) (.c (.int .i64 1)), none⟩])
     (.cond (.t 7)
      (.reg none [⟨(some 8), .bad, none⟩,
        ⟨none, .bad, none⟩])
      .skip))
    (.seq
     (.reg none [⟨(some 9), .mv (.t 0), none⟩,
       ⟨(some 10), .iaddr 1 (.t 9) (.c (.int .i64 0)), none⟩,
       ⟨(some 11), .load none (.t 10), none⟩,
       ⟨(some 3), .mv (.t 11), none⟩])
     (.seq
      (.seq
       (.reg none [⟨(some 4), .mv (.c (.int .i64 1)), none⟩])
       (.block 0
        (.loop
         (.seq
          (.seq
           (.reg none [⟨(some 12), .mv (.t 4), none⟩,
             ⟨(some 13), .mv (.t 0), none⟩,
             ⟨(some 14), .len (.t 13), none⟩,
             ⟨(some 15), .bin .lss (.t 12) (.t 14), none⟩])
           (.cond (.t 15)
            .skip
            (.exit 0)))
          (.seq
           (.block 1
            (.reg none [⟨(some 18), .mv (.t 3), none⟩,
              ⟨(some 19), .mv (.t 0), none⟩,
              ⟨(some 20), .mv (.t 4), none⟩,
              ⟨(some 21), .iaddr 1 (.t 19) (.t 20), none⟩,
              ⟨(some 22), .load none (.t 21), none⟩,
              ⟨(some 23), .mn [(.t 18), (.t 22)], none⟩,
              ⟨(some 3), .mv (.t 23), none⟩]))
           (.reg none [⟨(some 16), .mv (.t 4), none⟩,
             ⟨(some 17), .bin .add (.t 16) (.c (.int .i64 1)), none⟩,
             ⟨(some 4), .mv (.t 17), none⟩]))))))
      (.seq
       (.reg none [⟨(some 24), .mv (.t 3), none⟩,
         ⟨(some 2), .mv (.t 24), none⟩])
       .ret))))) }
theorem f98P : prepF C Try.f98 = some f98A := by kernel_rfl

/-- slices.Max[[]int,int] -/
def f99A : AFunc :=
{ nargs := 1, res := [.t 2], body :=
  (.seq
   (.reg none [⟨(some 2), .mv (.c (.int .i64 0)), none⟩])
   (.seq
    (.seq
     (.reg none [⟨(some 5), .mv (.t 0), none⟩,
       ⟨(some 6), .len (.t 5), none⟩,
       ⟨(some 7), .bin .lss (.t 6) (.c (.int .i64 1)), none⟩])
     (.cond (.t 7)
      (.reg none [⟨(some 8), .bad, none⟩,
        ⟨none, .bad, none⟩])
      .skip))
    (.seq
     (.reg none [⟨(some 9), .mv (.t 0), none⟩,
       ⟨(some 10), .iaddr 1 (.t 9) (.c (.int .i64 0)), none⟩,
       ⟨(some 11), .load none (.t 10), none⟩,
       ⟨(some 3), .mv (.t 11), none⟩])
     (.seq
      (.seq
       (.reg none [⟨(some 4), .mv (.c (.int .i64 1)), none⟩])
       (.block 0
        (.loop
         (.seq
          (.seq
           (.reg none [⟨(some 12), .mv (.t 4), none⟩,
             ⟨(some 13), .mv (.t 0), none⟩,
             ⟨(some 14), .len (.t 13), none⟩,
             ⟨(some 15), .bin .lss (.t 12) (.t 14), none⟩])
           (.cond (.t 15)
            .skip
            (.exit 0)))
          (.seq
           (.block 1
            (.reg none [⟨(some 18), .mv (.t 3), none⟩,
              ⟨(some 19), .mv (.t 0), none⟩,
              ⟨(some 20), .mv (.t 4), none⟩,
              ⟨(some 21), .iaddr 1 (.t 19) (.t 20), none⟩,
              ⟨(some 22), .load none (.t 21), none⟩,
              ⟨(some 23), .mx [(.t 18), (.t 22)], none⟩,
              ⟨(some 3), .mv (.t 23), none⟩]))
           (.reg none [⟨(some 16), .mv (.t 4), none⟩,
             ⟨(some 17), .bin .add (.t 16) (.c (.int .i64 1)), none⟩,
             ⟨(some 4), .mv (.t 17), none⟩]))))))
      (.seq
       (.reg none [⟨(some 24), .mv (.t 3), none⟩,
         ⟨(some 2), .mv (.t 24), none⟩])
       .ret))))) }
theorem f99P : prepF C Try.f99 = some f99A := by kernel_rfl

/-- congou/arrays.comes -/
def f101A : AFunc :=
{ nargs := 3, res := [.t 6], body :=
  (.seq
   (.reg none [⟨(some 6), .mv (.c (.b false)), none⟩])
   (.seq
    (.seq
     (.reg none [⟨(some 9), .mv (.t 1), none⟩,
       ⟨(some 10), .len (.t 9), none⟩,
       ⟨(some 11), .mv (.c (.int .i64 0)), none⟩])
     (.block 0
      (.loop
       (.seq
        (.reg none [⟨(some 12), .bin .lss (.t 11) (.t 10), none⟩])
        (.seq
         (.cond (.t 12)
          .skip
          (.exit 0))
         (.seq
          (.block 1
           (.seq
            (.reg none [⟨(some 13), .mv (.t 11), none⟩,
              ⟨(some 14), .iaddr 1 (.t 9) (.t 11), none⟩,
              ⟨(some 15), .load none (.t 14), none⟩,
              ⟨(some 7), .mv (.t 13), none⟩,
              ⟨(some 8), .mv (.t 15), none⟩])
            (.seq
             (.reg (some []) [⟨(some 16), .mv (.t 0), none⟩,
               ⟨(some 17), .mv (.t 8), none⟩,
               ⟨(some 18), .iaddr 1 (.t 16) (.t 17), none⟩,
               ⟨(some 19), .load none (.t 18), none⟩,
               ⟨(some 20), .mv (.t 2), none⟩,
               ⟨(some 21), .mv (.t 7), none⟩,
               ⟨(some 22), .iaddr 1 (.t 20) (.t 21), none⟩,
               ⟨(some 23), .load none (.t 22), none⟩,
               ⟨(some 24), .bin .neq (.t 19) (.t 23), none⟩])
             (.cond (.t 24)
              (.seq
               (.reg none [⟨(some 6), .mv (.c (.b false)), none⟩])
               .ret)
              .skip))))
          (.reg none [⟨(some 25), .bin .add (.t 11) (.c (.int .i64 1)), none⟩,
            ⟨(some 11), .mv (.t 25), none⟩])))))))
    (.seq
     (.reg none [⟨(some 6), .mv (.c (.b true)), none⟩])
     .ret))) }
theorem f101P : prepF C Try.f101 = some f101A := by kernel_rfl

/-- (congou/arrays.Array).all$1 -/
def f102A : AFunc :=
{ nargs := 3, res := [], body :=
  (.seq
   (.reg none [⟨(some 3), .box (.t 0), none⟩])
   (.seq
    (.reg (some []) [⟨(some 6), .load none (.t 1), none⟩,
      ⟨(some 7), .load (some 2) (.t 2), none⟩,
      ⟨(some 8), .call 75 [(.t 7)], none⟩,
      ⟨(some 9), .call 72 [(.t 6), (.t 8), (.c (.b true))], none⟩])
    (.block 0
     (.rangeF 27 (.t 9) [10]
      (.reg none [⟨(some 4), .alloc [.nils], none⟩,
        ⟨none, .store 1 (.t 4) (.t 10), none⟩])
      (.block 1
       (.seq
        (.reg none [⟨(some 11), .load none (.t 1), none⟩,
          ⟨(some 12), .faddr 0 (.t 2), none⟩,
          ⟨(some 13), .load none (.t 12), none⟩,
          ⟨(some 14), .call 72 [(.t 11), (.t 13), (.c (.b false))], none⟩])
        (.block 2
         (.rangeF 27 (.t 14) [15]
          (.reg none [⟨(some 5), .mv (.t 15), none⟩])
          (.block 3
           (.seq
            (.reg (some []) [⟨(some 16), .load none (.t 3), none⟩,
              ⟨(some 17), .load none (.t 4), none⟩,
              ⟨(some 18), .mv (.t 5), none⟩,
              ⟨(some 19), .bslice [.nils] 2 1 [(0, (.t 17)), (1, (.t 18))], none⟩,
              ⟨(some 20), .call 103 [(.t 19)], none⟩,
              ⟨(some 21), .load (some 2) (.t 2), none⟩,
              ⟨(some 22), .load none (.t 4), none⟩,
              ⟨(some 23), .mv (.t 5), none⟩,
              ⟨(some 24), .call 104 [(.t 21), (.t 22), (.t 23)], none⟩,
              ⟨(some 25), .callv (.t 16) [(.t 20), (.t 24)], none⟩,
              ⟨(some 26), .un .not (.t 25), none⟩])
            (.cond (.t 26)
             .ret
             .skip))))))))))) }
theorem f102P : prepF C Try.f102 = some f102A := by kernel_rfl

/-- slices.Concat[[]int,int] -/
def f103A : AFunc :=
{ nargs := 1, res := [.t 2], body :=
  (.seq
   (.reg none [⟨(some 2), .mv (.c .nils), none⟩])
   (.seq
    (.reg none [⟨(some 3), .mv (.c (.int .i64 0)), none⟩])
    (.seq
     (.seq
      (.reg none [⟨(some 9), .mv (.t 0), none⟩,
        ⟨(some 10), .len (.t 9), none⟩,
        ⟨(some 11), .mv (.c (.int .i64 0)), none⟩])
      (.block 0
       (.loop
        (.seq
         (.reg none [⟨(some 12), .bin .lss (.t 11) (.t 10), none⟩])
         (.seq
          (.cond (.t 12)
           .skip
           (.exit 0))
          (.seq
           (.block 1
            (.seq
             (.reg none [⟨(some 13), .iaddr 1 (.t 9) (.t 11), none⟩,
               ⟨(some 14), .load none (.t 13), none⟩,
               ⟨(some 5), .mv (.t 14), none⟩])
             (.seq
              (.reg none [⟨(some 15), .mv (.t 3), none⟩,
                ⟨(some 16), .mv (.t 5), none⟩,
                ⟨(some 17), .len (.t 16), none⟩,
                ⟨(some 18), .bin .add (.t 15) (.t 17), none⟩,
                ⟨(some 3), .mv (.t 18), none⟩])
              (.seq
               (.reg none [⟨(some 19), .mv (.t 3), none⟩,
                 ⟨(some 20), .bin .lss (.t 19) (.c (.int .i64 0)), none⟩])
               (.cond (.t 20)
                (.reg none [⟨(some 21), .bad, none⟩,
                  ⟨none, .bad, none⟩])
                .skip)))))
           (.reg none [⟨(some 22), .bin .add (.t 11) (.c (.int .i64 1)), none⟩,
             ⟨(some 11), .mv (.t 22), none⟩])))))))
     (.seq
      (.reg none [⟨(some 23), .mv (.t 3), none⟩,
        ⟨(some 24), .call 106 [(.c .nils), (.t 23)], none⟩,
        ⟨(some 6), .mv (.t 24), none⟩])
      (.seq
       (.seq
        (.reg none [⟨(some 25), .mv (.t 0), none⟩,
          ⟨(some 26), .len (.t 25), none⟩,
          ⟨(some 27), .mv (.c (.int .i64 0)), none⟩])
        (.block 2
         (.loop
          (.seq
           (.reg none [⟨(some 28), .bin .lss (.t 27) (.t 26), none⟩])
           (.seq
            (.cond (.t 28)
             .skip
             (.exit 2))
            (.seq
             (.block 3
              (.seq
               (.reg none [⟨(some 29), .iaddr 1 (.t 25) (.t 27), none⟩,
                 ⟨(some 30), .load none (.t 29), none⟩,
                 ⟨(some 8), .mv (.t 30), none⟩])
               (.reg none [⟨(some 31), .mv (.t 6), none⟩,
                 ⟨(some 32), .mv (.t 8), none⟩,
                 ⟨(some 33), .append 1 8 (.t 31) (.t 32), none⟩,
                 ⟨(some 6), .mv (.t 33), none⟩])))
             (.reg none [⟨(some 34), .bin .add (.t 27) (.c (.int .i64 1)), none⟩,
               ⟨(some 27), .mv (.t 34), none⟩])))))))
       (.seq
        (.reg none [⟨(some 35), .mv (.t 6), none⟩,
          ⟨(some 2), .mv (.t 35), none⟩])
        .ret)))))) }
theorem f103P : prepF C Try.f103 = some f103A := by kernel_rfl

/-- (congou/arrays.Array).often -/
def f104A : AFunc :=
{ nargs := 3, res := [.t 6], body :=
  (.seq
   (.reg none [⟨(some 3), .box (.t 0), none⟩,
     ⟨(some 6), .mv (.c (.int .i64 0)), none⟩])
   (.seq
    (.reg none [⟨(some 7), .mv (.c (.int .i64 0)), none⟩])
    (.seq
     (.seq
      (.reg none [⟨(some 10), .faddr 1 (.t 3), none⟩,
        ⟨(some 11), .load none (.t 10), none⟩,
        ⟨(some 12), .len (.t 11), none⟩,
        ⟨(some 13), .mv (.c (.int .i64 0)), none⟩])
      (.block 0
       (.loop
        (.seq
         (.reg none [⟨(some 14), .bin .lss (.t 13) (.t 12), none⟩])
         (.seq
          (.cond (.t 14)
           .skip
           (.exit 0))
          (.seq
           (.block 1
            (.seq
             (.reg none [⟨(some 15), .iaddr 1 (.t 11) (.t 13), none⟩,
               ⟨(some 16), .load none (.t 15), none⟩,
               ⟨(some 9), .mv (.t 16), none⟩])
             (.seq
              (.reg none [⟨(some 17), .mv (.t 9), none⟩,
                ⟨(some 18), .mv (.t 1), none⟩,
                ⟨(some 19), .mv (.t 2), none⟩,
                ⟨(some 20), .call 101 [(.t 17), (.t 18), (.t 19)], none⟩])
              (.cond (.t 20)
               (.reg none [⟨(some 21), .mv (.t 7), none⟩,
                 ⟨(some 22), .bin .add (.t 21) (.c (.int .i64 1)), none⟩,
                 ⟨(some 7), .mv (.t 22), none⟩])
               .skip))))
           (.reg none [⟨(some 23), .bin .add (.t 13) (.c (.int .i64 1)), none⟩,
             ⟨(some 13), .mv (.t 23), none⟩])))))))
     (.seq
      (.reg none [⟨(some 24), .mv (.t 7), none⟩,
        ⟨(some 6), .mv (.t 24), none⟩])
      .ret)))) }
theorem f104P : prepF C Try.f104 = some f104A := by kernel_rfl

/-- slices.Grow[[]int,int] -/
def f106A : AFunc :=
{ nargs := 2, res := [.t 4], body :=
  (.seq
   (.reg none [⟨(some 4), .mv (.c .nils), none⟩])
   (.seq
    (.seq
     (.reg none [⟨(some 5), .mv (.t 1), none⟩,
       ⟨(some 6), .bin .lss (.t 5) (.c (.int .i64 0)), none⟩])
     (.cond (.t 6)
      (.reg none [⟨(some 7), .bad, none⟩,
        ⟨none, .bad, none⟩])
      .skip))
    (.seq
     (.seq
      (.reg none [⟨(some 8), .mv (.t 1), none⟩,
        ⟨(some 9), .mv (.t 0), none⟩,
        ⟨(some 10), .cap (.t 9), none⟩,
        ⟨(some 11), .mv (.t 0), none⟩,
        ⟨(some 12), .len (.t 11), none⟩,
        ⟨(some 13), .bin .sub (.t 10) (.t 12), none⟩,
        ⟨(some 14), .bin .sub (.t 8) (.t 13), none⟩,
        ⟨(some 1), .mv (.t 14), none⟩])
      (.seq
       (.reg none [⟨(some 15), .mv (.t 1), none⟩,
         ⟨(some 16), .bin .gtr (.t 15) (.c (.int .i64 0)), none⟩])
       (.cond (.t 16)
        (.reg none [⟨(some 17), .mv (.t 0), none⟩,
          ⟨(some 18), .mv (.t 0), none⟩,
          ⟨(some 19), .cap (.t 18), none⟩,
          ⟨(some 20), .slice 1 (.t 17) none (some (.t 19)) none, none⟩,
          ⟨(some 21), .mv (.t 1), none⟩,
          ⟨(some 22), .appendz 1 8 [(.int .i64 0)] (.t 20) (.t 21), none⟩,
          ⟨(some 23), .mv (.t 0), none⟩,
          ⟨(some 24), .len (.t 23), none⟩,
          ⟨(some 25), .slice 1 (.t 22) none (some (.t 24)) none, none⟩,
          ⟨(some 0), .mv (.t 25), none⟩])
        .skip)))
     (.seq
      (.reg none [⟨(some 26), .mv (.t 0), none⟩,
        ⟨(some 4), .mv (.t 26), none⟩])
      .ret)))) }
theorem f106P : prepF C Try.f106 = some f106A := by kernel_rfl

end Go.Proofs.Ytalaadcbpjnglaa
