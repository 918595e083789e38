/- The abstract forms of the functions that are needed, each checked against the translation. No condition. -/
import Derived.Test.YtalaadcbpjnglaaAm1
import Derived.Test.YtalaadcbpjnglaaProg
namespace Go.Proofs.Ytalaadcbpjnglaa
open Go Go.AM Go.Proofs

/-- the seat's program; the types whose comparison is taken; the functions that may write to what is older -/
def kd : Nat → Kd := fun f => if [79, 80, 81, 96, 97, 102].contains f then .wrt else if [25, 4, 10, 13, 27].contains f then .closed else .ro
noncomputable def C : Cfg := { P := Try.prog, eqT := fun _ => none, kd := kd }
/-- congou/congoulaw09.ArraysTogether -/
def f17A : AFunc :=
{ nargs := 3, res := [.t 6], body :=
  (.seq
   (.reg none [⟨(some 3), .box (.t 0), none⟩,
     ⟨(some 4), .box (.t 1), none⟩,
     ⟨(some 6), .mv (.c (.b false)), none⟩])
   (.seq
    (.reg (some []) [⟨(some 31), .load (some 2) (.t 3), none⟩,
      ⟨(some 32), .call 32 [(.t 31)], none⟩,
      ⟨(some 33), .load (some 2) (.t 4), none⟩,
      ⟨(some 34), .call 32 [(.t 33)], none⟩,
      ⟨(some 35), .call 31 [(.t 32), (.t 34)], none⟩,
      ⟨(some 30), .mv (.t 35), none⟩,
      ⟨(some 36), .extr (.t 30) 0, none⟩,
      ⟨(some 37), .extr (.t 30) 1, none⟩,
      ⟨(some 7), .alloc [(.int .i64 0), .nils], none⟩,
      ⟨none, .store 2 (.t 7) (.t 36), none⟩,
      ⟨(some 8), .mv (.t 37), none⟩])
    (.seq
     (.seq
      (.reg none [⟨(some 38), .mv (.t 8), none⟩,
        ⟨(some 39), .bin .neq (.t 38) (.c (.int .i64 0)), none⟩,
        ⟨(some 40), .mv (.t 39), none⟩,
        ⟨(some 41), .load (some 2) (.t 3), some (40, false)⟩,
        ⟨(some 42), .load (some 2) (.t 4), some (40, false)⟩,
        ⟨(some 43), .call 36 [(.t 41), (.t 42)], some (40, false)⟩,
        ⟨(some 44), .un .not (.t 43), some (40, false)⟩,
        ⟨(some 45), .pick (.t 40) (.c (.b true)) (.t 44), none⟩,
        ⟨(some 46), .mv (.t 45), none⟩,
        ⟨(some 47), .load (some 2) (.t 7), some (46, false)⟩,
        ⟨(some 48), .call 21 [(.t 47)], some (46, false)⟩,
        ⟨(some 49), .call 38 [(.t 48)], some (46, false)⟩,
        ⟨(some 50), .un .not (.t 49), some (46, false)⟩,
        ⟨(some 51), .pick (.t 46) (.c (.b true)) (.t 50), none⟩])
      (.cond (.t 51)
       (.seq
        (.reg none [⟨(some 52), .mv (.t 8), none⟩,
          ⟨(some 53), .bin .eql (.t 52) (.c (.int .i64 2)), none⟩,
          ⟨(some 54), .mv (.t 53), none⟩,
          ⟨(some 55), .mv (.t 8), some (54, false)⟩,
          ⟨(some 56), .bin .eql (.t 55) (.c (.int .i64 6)), some (54, false)⟩,
          ⟨(some 57), .pick (.t 54) (.c (.b true)) (.t 56), none⟩,
          ⟨(some 58), .mv (.t 57), none⟩,
          ⟨(some 59), .call 25 [], some (58, true)⟩,
          ⟨(some 60), .pick (.t 58) (.t 59) (.c (.b false)), none⟩,
          ⟨(some 6), .mv (.t 60), none⟩])
        .ret)
       .skip))
     (.seq
      (.reg none [⟨(some 62), .load (some 2) (.t 3), none⟩,
        ⟨(some 63), .call 32 [(.t 62)], none⟩,
        ⟨(some 64), .mv (.t 2), none⟩,
        ⟨(some 65), .call 46 [(.t 63), (.t 64)], none⟩,
        ⟨(some 61), .mv (.t 65), none⟩,
        ⟨(some 66), .extr (.t 61) 0, none⟩,
        ⟨(some 67), .extr (.t 61) 1, none⟩,
        ⟨(some 9), .mv (.t 66), none⟩,
        ⟨(some 10), .mv (.t 67), none⟩])
      (.seq
       (.reg none [⟨(some 69), .load (some 2) (.t 4), none⟩,
         ⟨(some 70), .call 32 [(.t 69)], none⟩,
         ⟨(some 71), .mv (.t 2), none⟩,
         ⟨(some 72), .call 46 [(.t 70), (.t 71)], none⟩,
         ⟨(some 68), .mv (.t 72), none⟩,
         ⟨(some 73), .extr (.t 68) 0, none⟩,
         ⟨(some 74), .extr (.t 68) 1, none⟩,
         ⟨(some 11), .mv (.t 73), none⟩,
         ⟨(some 12), .mv (.t 74), none⟩])
       (.seq
        (.reg none [⟨(some 76), .load (some 2) (.t 7), none⟩,
          ⟨(some 77), .call 21 [(.t 76)], none⟩,
          ⟨(some 78), .call 32 [(.t 77)], none⟩,
          ⟨(some 79), .mv (.t 2), none⟩,
          ⟨(some 80), .call 46 [(.t 78), (.t 79)], none⟩,
          ⟨(some 75), .mv (.t 80), none⟩,
          ⟨(some 81), .extr (.t 75) 0, none⟩,
          ⟨(some 82), .extr (.t 75) 1, none⟩,
          ⟨(some 13), .mv (.t 81), none⟩,
          ⟨(some 14), .mv (.t 82), none⟩])
        (.seq
         (.seq
          (.reg none [⟨(some 83), .load (some 2) (.t 3), none⟩,
            ⟨(some 84), .mv (.t 2), none⟩,
            ⟨(some 85), .call 52 [(.t 83), (.t 84)], none⟩,
            ⟨(some 86), .un .not (.t 85), none⟩])
          (.cond (.t 86)
           (.seq
            (.reg none [⟨(some 87), .mv (.t 10), none⟩,
              ⟨(some 88), .bin .eql (.t 87) (.c (.int .i64 2)), none⟩,
              ⟨(some 89), .mv (.t 88), none⟩,
              ⟨(some 90), .mv (.t 12), some (89, true)⟩,
              ⟨(some 91), .mv (.t 10), some (89, true)⟩,
              ⟨(some 92), .bin .eql (.t 90) (.t 91), some (89, true)⟩,
              ⟨(some 93), .pick (.t 89) (.t 92) (.c (.b false)), none⟩,
              ⟨(some 94), .mv (.t 93), none⟩,
              ⟨(some 95), .mv (.t 14), some (94, true)⟩,
              ⟨(some 96), .mv (.t 10), some (94, true)⟩,
              ⟨(some 97), .bin .eql (.t 95) (.t 96), some (94, true)⟩,
              ⟨(some 98), .pick (.t 94) (.t 97) (.c (.b false)), none⟩,
              ⟨(some 99), .mv (.t 98), none⟩,
              ⟨(some 100), .call 25 [], some (99, true)⟩,
              ⟨(some 101), .pick (.t 99) (.t 100) (.c (.b false)), none⟩,
              ⟨(some 6), .mv (.t 101), none⟩])
            .ret)
           .skip))
         (.seq
          (.seq
           (.reg none [⟨(some 102), .mv (.t 10), none⟩,
             ⟨(some 103), .bin .neq (.t 102) (.c (.int .i64 0)), none⟩,
             ⟨(some 104), .mv (.t 103), none⟩,
             ⟨(some 105), .mv (.t 12), some (104, false)⟩,
             ⟨(some 106), .bin .neq (.t 105) (.c (.int .i64 0)), some (104, false)⟩,
             ⟨(some 107), .pick (.t 104) (.c (.b true)) (.t 106), none⟩,
             ⟨(some 108), .mv (.t 107), none⟩,
             ⟨(some 109), .mv (.t 14), some (108, false)⟩,
             ⟨(some 110), .bin .neq (.t 109) (.c (.int .i64 0)), some (108, false)⟩,
             ⟨(some 111), .pick (.t 108) (.c (.b true)) (.t 110), none⟩,
             ⟨(some 112), .mv (.t 111), none⟩,
             ⟨(some 113), .mv (.t 9), some (112, false)⟩,
             ⟨(some 114), .mv (.t 113), some (112, false)⟩,
             ⟨(some 115), .mv (.t 11), some (114, false)⟩,
             ⟨(some 116), .pick (.t 114) (.c (.b true)) (.t 115), some (112, false)⟩,
             ⟨(some 117), .mv (.t 116), some (112, false)⟩,
             ⟨(some 118), .mv (.t 13), some (117, true)⟩,
             ⟨(some 119), .un .not (.t 118), some (117, true)⟩,
             ⟨(some 120), .pick (.t 117) (.t 119) (.c (.b false)), some (112, false)⟩,
             ⟨(some 121), .pick (.t 112) (.c (.b true)) (.t 120), none⟩])
           (.cond (.t 121)
            (.seq
             (.reg none [⟨(some 6), .mv (.c (.b false)), none⟩])
             .ret)
            .skip))
          (.seq
           (.reg none [⟨(some 123), .load (some 2) (.t 3), none⟩,
             ⟨(some 124), .call 32 [(.t 123)], none⟩,
             ⟨(some 125), .mv (.t 2), none⟩,
             ⟨(some 126), .call 48 [(.t 124), (.t 125)], none⟩,
             ⟨(some 122), .mv (.t 126), none⟩,
             ⟨(some 127), .extr (.t 122) 0, none⟩,
             ⟨(some 128), .extr (.t 122) 1, none⟩,
             ⟨(some 15), .mv (.t 127), none⟩,
             ⟨(some 16), .mv (.t 128), none⟩])
           (.seq
            (.reg none [⟨(some 130), .load (some 2) (.t 4), none⟩,
              ⟨(some 131), .call 32 [(.t 130)], none⟩,
              ⟨(some 132), .mv (.t 2), none⟩,
              ⟨(some 133), .call 48 [(.t 131), (.t 132)], none⟩,
              ⟨(some 129), .mv (.t 133), none⟩,
              ⟨(some 134), .extr (.t 129) 0, none⟩,
              ⟨(some 135), .extr (.t 129) 1, none⟩,
              ⟨(some 17), .mv (.t 134), none⟩,
              ⟨(some 18), .mv (.t 135), none⟩])
            (.seq
             (.reg none [⟨(some 137), .load (some 2) (.t 7), none⟩,
               ⟨(some 138), .call 21 [(.t 137)], none⟩,
               ⟨(some 139), .call 32 [(.t 138)], none⟩,
               ⟨(some 140), .mv (.t 2), none⟩,
               ⟨(some 141), .call 48 [(.t 139), (.t 140)], none⟩,
               ⟨(some 136), .mv (.t 141), none⟩,
               ⟨(some 142), .extr (.t 136) 0, none⟩,
               ⟨(some 143), .extr (.t 136) 1, none⟩,
               ⟨(some 19), .mv (.t 142), none⟩,
               ⟨(some 20), .mv (.t 143), none⟩])
             (.seq
              (.seq
               (.reg none [⟨(some 144), .mv (.t 16), none⟩,
                 ⟨(some 145), .bin .eql (.t 144) (.c (.int .i64 0)), none⟩,
                 ⟨(some 146), .mv (.t 145), none⟩,
                 ⟨(some 147), .mv (.t 18), some (146, true)⟩,
                 ⟨(some 148), .bin .eql (.t 147) (.c (.int .i64 0)), some (146, true)⟩,
                 ⟨(some 149), .pick (.t 146) (.t 148) (.c (.b false)), none⟩,
                 ⟨(some 150), .mv (.t 149), none⟩,
                 ⟨(some 151), .mv (.t 20), some (150, true)⟩,
                 ⟨(some 152), .bin .neq (.t 151) (.c (.int .i64 0)), some (150, true)⟩,
                 ⟨(some 153), .mv (.t 152), some (150, true)⟩,
                 ⟨(some 154), .mv (.t 19), some (153, false)⟩,
                 ⟨(some 155), .mv (.t 15), some (153, false)⟩,
                 ⟨(some 156), .mv (.t 17), some (153, false)⟩,
                 ⟨(some 157), .bin .add (.t 155) (.t 156), some (153, false)⟩,
                 ⟨(some 158), .bin .neq (.t 154) (.t 157), some (153, false)⟩,
                 ⟨(some 159), .pick (.t 153) (.c (.b true)) (.t 158), some (150, true)⟩,
                 ⟨(some 160), .pick (.t 150) (.t 159) (.c (.b false)), none⟩])
               (.cond (.t 160)
                (.seq
                 (.reg none [⟨(some 6), .mv (.c (.b false)), none⟩])
                 .ret)
                .skip))
              (.seq
               (.seq
                (.reg none [⟨(some 161), .mv (.t 2), none⟩,
                  ⟨(some 162), .bin .gtr (.t 161) (.c (.int .i64 2)), none⟩])
                (.cond (.t 162)
                 (.seq
                  (.reg none [⟨(some 163), .call 25 [], none⟩,
                    ⟨(some 6), .mv (.t 163), none⟩])
                  .ret)
                 .skip))
               (.seq
                (.reg none [⟨(some 165), .load (some 2) (.t 3), none⟩,
                  ⟨(some 166), .call 32 [(.t 165)], none⟩,
                  ⟨(some 167), .mv (.t 2), none⟩,
                  ⟨(some 168), .call 61 [(.t 166), (.t 167)], none⟩,
                  ⟨(some 164), .mv (.t 168), none⟩,
                  ⟨(some 169), .extr (.t 164) 0, none⟩,
                  ⟨(some 170), .extr (.t 164) 1, none⟩,
                  ⟨(some 21), .mv (.t 169), none⟩,
                  ⟨(some 22), .mv (.t 170), none⟩])
                (.seq
                 (.reg none [⟨(some 172), .load (some 2) (.t 4), none⟩,
                   ⟨(some 173), .call 32 [(.t 172)], none⟩,
                   ⟨(some 174), .mv (.t 2), none⟩,
                   ⟨(some 175), .call 61 [(.t 173), (.t 174)], none⟩,
                   ⟨(some 171), .mv (.t 175), none⟩,
                   ⟨(some 176), .extr (.t 171) 0, none⟩,
                   ⟨(some 177), .extr (.t 171) 1, none⟩,
                   ⟨(some 23), .mv (.t 176), none⟩,
                   ⟨(some 24), .mv (.t 177), none⟩])
                 (.seq
                  (.reg none [⟨(some 179), .load (some 2) (.t 7), none⟩,
                    ⟨(some 180), .mv (.t 2), none⟩,
                    ⟨(some 181), .call 61 [(.t 179), (.t 180)], none⟩,
                    ⟨(some 178), .mv (.t 181), none⟩,
                    ⟨(some 182), .extr (.t 178) 0, none⟩,
                    ⟨(some 183), .extr (.t 178) 1, none⟩,
                    ⟨(some 25), .mv (.t 182), none⟩,
                    ⟨(some 26), .mv (.t 183), none⟩])
                  (.seq
                   (.reg none [⟨(some 27), .mv (.c .nils), none⟩])
                   (.seq
                    (.seq
                     (.reg none [⟨(some 184), .mv (.t 21), none⟩,
                       ⟨(some 185), .len (.t 184), none⟩,
                       ⟨(some 186), .mv (.c (.int .i64 0)), none⟩])
                     (.block 0
                      (.loop
                       (.seq
                        (.reg none [⟨(some 187), .bin .lss (.t 186) (.t 185), none⟩])
                        (.seq
                         (.cond (.t 187)
                          .skip
                          (.exit 0))
                         (.seq
                          (.block 1
                           (.seq
                            (.reg none [⟨(some 188), .iaddr 1 (.t 184) (.t 186), none⟩,
                              ⟨(some 189), .load none (.t 188), none⟩,
                              ⟨(some 29), .alloc [.nils], none⟩,
                              ⟨none, .store 1 (.t 29) (.t 189), none⟩])
                            (.seq
                             (.reg none [⟨(some 190), .mv (.t 23), none⟩,
                               ⟨(some 191), .mkfn 70 [] [(.t 29)], none⟩,
                               ⟨(some 192), .call 68 [(.t 190), (.t 191)], none⟩])
                             (.cond (.t 192)
                              (.reg none [⟨(some 193), .mv (.t 27), none⟩,
                                ⟨(some 194), .load none (.t 29), none⟩,
                                ⟨(some 195), .bslice [.nils] 1 1 [(0, (.t 194))], none⟩,
                                ⟨(some 196), .append 1 24 (.t 193) (.t 195), none⟩,
                                ⟨(some 27), .mv (.t 196), none⟩])
                              .skip))))
                          (.reg none [⟨(some 197), .bin .add (.t 186) (.c (.int .i64 1)), none⟩,
                            ⟨(some 186), .mv (.t 197), none⟩])))))))
                    (.seq
                     (.reg none [⟨(some 198), .mv (.t 22), none⟩,
                       ⟨(some 199), .bin .eql (.t 198) (.c (.int .i64 0)), none⟩,
                       ⟨(some 200), .mv (.t 199), none⟩,
                       ⟨(some 201), .mv (.t 24), some (200, true)⟩,
                       ⟨(some 202), .bin .eql (.t 201) (.c (.int .i64 0)), some (200, true)⟩,
                       ⟨(some 203), .pick (.t 200) (.t 202) (.c (.b false)), none⟩,
                       ⟨(some 204), .mv (.t 203), none⟩,
                       ⟨(some 205), .mv (.t 26), some (204, true)⟩,
                       ⟨(some 206), .bin .eql (.t 205) (.c (.int .i64 0)), some (204, true)⟩,
                       ⟨(some 207), .pick (.t 204) (.t 206) (.c (.b false)), none⟩,
                       ⟨(some 208), .mv (.t 207), none⟩,
                       ⟨(some 209), .mv (.t 25), some (208, true)⟩,
                       ⟨(some 210), .mv (.t 27), some (208, true)⟩,
                       ⟨(some 211), .call 65 [(.t 209), (.t 210), (.c (.fn 55 [] []))], some (208, true)⟩,
                       ⟨(some 212), .pick (.t 208) (.t 211) (.c (.b false)), none⟩,
                       ⟨(some 213), .mv (.t 212), none⟩,
                       ⟨(some 214), .call 25 [], some (213, true)⟩,
                       ⟨(some 215), .pick (.t 213) (.t 214) (.c (.b false)), none⟩,
                       ⟨(some 6), .mv (.t 215), none⟩])
                     .ret))))))))))))))))))) }
theorem f17P : prepF C Try.f17 = some f17A := by kernel_rfl

/-- congou/congoulaw09.own -/
def f21A : AFunc :=
{ nargs := 1, res := [.c 2 (some 2)], body :=
  (.seq
   (.reg none [⟨(some 1), .box (.t 0), none⟩,
     ⟨(some 2), .alloc [(.int .i64 0), .nils], none⟩])
   (.seq
    (.reg none [⟨(some 3), .faddr 0 (.t 1), none⟩,
      ⟨(some 4), .load none (.t 3), none⟩,
      ⟨(some 5), .faddr 1 (.t 1), none⟩,
      ⟨(some 6), .load none (.t 5), none⟩,
      ⟨(some 7), .build [(.int .i64 0), .nils] [(0, 1, (.t 4)), (1, 1, (.t 6))], none⟩,
      ⟨none, .store 2 (.t 2) (.t 7), none⟩])
    .ret)) }
theorem f21P : prepF C Try.f21 = some f21A := by kernel_rfl

/-- congou/congoulaw09.awake -/
def f25A : AFunc :=
{ nargs := 0, res := [.t 0], body :=
  (.seq
   (.reg none [⟨(some 0), .mv (.c (.b false)), none⟩])
   (.seq
    (.reg none [⟨(some 4), .bslice [(.int .i64 0)] 3 1 [(0, (.c (.int .i64 0))), (1, (.c (.int .i64 0))), (2, (.c (.int .i64 1)))], none⟩,
      ⟨(some 5), .bslice [(.int .i64 0)] 3 1 [(0, (.c (.int .i64 1))), (1, (.c (.int .i64 0))), (2, (.c (.int .i64 0)))], none⟩,
      ⟨(some 6), .bslice [.nils] 2 1 [(0, (.t 4)), (1, (.t 5))], none⟩,
      ⟨(some 7), .build [(.int .i64 0), .nils] [(0, 1, (.c (.int .i64 2))), (1, 1, (.t 6))], none⟩,
      ⟨(some 8), .call 47 [(.t 7)], none⟩,
      ⟨(some 3), .mv (.t 8), none⟩,
      ⟨(some 9), .extr (.t 3) 0, none⟩,
      ⟨(some 10), .extr (.t 3) 1, none⟩,
      ⟨(some 1), .mv (.t 9), none⟩,
      ⟨(some 2), .mv (.t 10), none⟩])
    (.seq
     (.reg none [⟨(some 11), .mv (.t 1), none⟩,
       ⟨(some 12), .bin .eql (.t 11) (.c (.int .i64 2)), none⟩,
       ⟨(some 13), .mv (.t 12), none⟩,
       ⟨(some 14), .mv (.t 2), some (13, true)⟩,
       ⟨(some 15), .bin .eql (.t 14) (.c (.int .i64 0)), some (13, true)⟩,
       ⟨(some 16), .pick (.t 13) (.t 15) (.c (.b false)), none⟩,
       ⟨(some 0), .mv (.t 16), none⟩])
     .ret))) }
theorem f25P : prepF C Try.f25 = some f25A := by kernel_rfl

/-- congou/arrays.Both -/
def f31A : AFunc :=
{ nargs := 2, res := [.c 4 (some 2), .t 5], body :=
  (.seq
   (.reg none [⟨(some 2), .box (.t 0), none⟩,
     ⟨(some 3), .box (.t 1), none⟩,
     ⟨(some 4), .alloc [(.int .i64 0), .nils], none⟩,
     ⟨(some 5), .mv (.c (.int .i64 0)), none⟩])
   (.seq
    (.seq
     (.reg (some []) [⟨(some 7), .load (some 2) (.t 2), none⟩,
       ⟨(some 8), .call 74 [(.t 7)], none⟩,
       ⟨(some 9), .un .not (.t 8), none⟩,
       ⟨(some 10), .mv (.t 9), none⟩,
       ⟨(some 11), .load (some 2) (.t 3), some (10, false)⟩,
       ⟨(some 12), .call 74 [(.t 11)], some (10, false)⟩,
       ⟨(some 13), .un .not (.t 12), some (10, false)⟩,
       ⟨(some 14), .pick (.t 10) (.c (.b true)) (.t 13), none⟩,
       ⟨(some 15), .mv (.t 14), none⟩,
       ⟨(some 16), .faddr 0 (.t 2), some (15, false)⟩,
       ⟨(some 17), .load none (.t 16), some (15, false)⟩,
       ⟨(some 18), .faddr 0 (.t 3), some (15, false)⟩,
       ⟨(some 19), .load none (.t 18), some (15, false)⟩,
       ⟨(some 20), .bin .neq (.t 17) (.t 19), some (15, false)⟩,
       ⟨(some 21), .pick (.t 15) (.c (.b true)) (.t 20), none⟩,
       ⟨(some 22), .mv (.t 21), none⟩,
       ⟨(some 23), .load (some 2) (.t 2), some (22, false)⟩,
       ⟨(some 24), .call 75 [(.t 23)], some (22, false)⟩,
       ⟨(some 25), .load (some 2) (.t 3), some (22, false)⟩,
       ⟨(some 26), .call 75 [(.t 25)], some (22, false)⟩,
       ⟨(some 27), .bin .neq (.t 24) (.t 26), some (22, false)⟩,
       ⟨(some 28), .pick (.t 22) (.c (.b true)) (.t 27), none⟩])
     (.cond (.t 28)
      (.seq
       (.reg none [⟨(some 29), .build [(.int .i64 0), .nils] [], none⟩,
         ⟨none, .store 2 (.t 4) (.t 29), none⟩,
         ⟨(some 5), .mv (.c (.int .i64 2)), none⟩])
       .ret)
      .skip))
    (.seq
     (.reg (some []) [⟨(some 30), .faddr 0 (.t 2), none⟩,
       ⟨(some 31), .load none (.t 30), none⟩,
       ⟨(some 32), .faddr 1 (.t 2), none⟩,
       ⟨(some 33), .load none (.t 32), none⟩,
       ⟨(some 34), .faddr 1 (.t 3), none⟩,
       ⟨(some 35), .load none (.t 34), none⟩,
       ⟨(some 36), .bslice [.nils] 2 1 [(0, (.t 33)), (1, (.t 35))], none⟩,
       ⟨(some 37), .call 76 [(.t 36)], none⟩,
       ⟨(some 38), .build [(.int .i64 0), .nils] [(0, 1, (.t 31)), (1, 1, (.t 37))], none⟩,
       ⟨(some 6), .alloc [(.int .i64 0), .nils], none⟩,
       ⟨none, .store 2 (.t 6) (.t 38), none⟩])
     (.seq
      (.seq
       (.reg none [⟨(some 39), .faddr 1 (.t 6), none⟩,
         ⟨(some 40), .load none (.t 39), none⟩,
         ⟨(some 41), .len (.t 40), none⟩,
         ⟨(some 42), .bin .gtr (.t 41) (.c (.int .i64 16)), none⟩])
       (.cond (.t 42)
        (.seq
         (.reg none [⟨(some 43), .build [(.int .i64 0), .nils] [], none⟩,
           ⟨none, .store 2 (.t 4) (.t 43), none⟩,
           ⟨(some 5), .mv (.c (.int .i64 6)), none⟩])
         .ret)
        .skip))
      (.seq
       (.reg none [⟨(some 44), .load (some 2) (.t 6), none⟩,
         ⟨(some 45), .call 77 [(.t 44), (.c (.fn 78 [] []))], none⟩,
         ⟨none, .store 2 (.t 4) (.t 45), none⟩,
         ⟨(some 5), .mv (.c (.int .i64 0)), none⟩])
       .ret))))) }
theorem f31P : prepF C Try.f31 = some f31A := by kernel_rfl

/-- congou/congoulaw09.Of -/
def f32A : AFunc :=
{ nargs := 1, res := [.c 2 (some 2)], body :=
  (.seq
   (.reg none [⟨(some 1), .box (.t 0), none⟩,
     ⟨(some 2), .alloc [(.int .i64 0), .nils], none⟩])
   (.seq
    (.reg none [⟨(some 6), .faddr 0 (.t 1), none⟩,
      ⟨(some 7), .load none (.t 6), none⟩,
      ⟨(some 8), .build [(.int .i64 0), .nils] [(0, 1, (.t 7))], none⟩,
      ⟨(some 3), .alloc [(.int .i64 0), .nils], none⟩,
      ⟨none, .store 2 (.t 3) (.t 8), none⟩])
    (.seq
     (.seq
      (.reg none [⟨(some 9), .faddr 1 (.t 1), none⟩,
        ⟨(some 10), .load none (.t 9), none⟩,
        ⟨(some 11), .len (.t 10), none⟩,
        ⟨(some 12), .mv (.c (.int .i64 0)), none⟩])
      (.block 0
       (.loop
        (.seq
         (.reg none [⟨(some 13), .bin .lss (.t 12) (.t 11), none⟩])
         (.seq
          (.cond (.t 13)
           .skip
           (.exit 0))
          (.seq
           (.block 1
            (.seq
             (.reg none [⟨(some 14), .mv (.t 12), none⟩,
               ⟨(some 15), .iaddr 1 (.t 10) (.t 12), none⟩,
               ⟨(some 16), .load none (.t 15), none⟩,
               ⟨(some 4), .mv (.t 14), none⟩,
               ⟨(some 5), .mv (.t 16), none⟩])
             (.seq
              (.reg none [⟨(some 17), .mv (.t 4), none⟩,
                ⟨(some 18), .bin .lss (.t 17) (.c (.int .i64 19)), none⟩])
              (.cond (.t 18)
               (.reg (some []) [⟨(some 19), .faddr 1 (.t 3), none⟩,
                 ⟨(some 20), .load none (.t 19), none⟩,
                 ⟨(some 21), .mv (.t 5), none⟩,
                 ⟨(some 22), .call 35 [(.t 21)], none⟩,
                 ⟨(some 23), .bslice [.nils] 1 1 [(0, (.t 22))], none⟩,
                 ⟨(some 24), .append 1 24 (.t 20) (.t 23), none⟩,
                 ⟨(some 25), .faddr 1 (.t 3), none⟩,
                 ⟨none, .store 1 (.t 25) (.t 24), none⟩])
               .skip))))
           (.reg none [⟨(some 26), .bin .add (.t 12) (.c (.int .i64 1)), none⟩,
             ⟨(some 12), .mv (.t 26), none⟩])))))))
     (.seq
      (.reg none [⟨(some 27), .load (some 2) (.t 3), none⟩,
        ⟨none, .store 2 (.t 2) (.t 27), none⟩])
      .ret)))) }
theorem f32P : prepF C Try.f32 = some f32A := by kernel_rfl

/-- congou/congoulaw09.list -/
def f35A : AFunc :=
{ nargs := 1, res := [.t 2], body :=
  (.seq
   (.reg none [⟨(some 2), .mv (.c .nils), none⟩])
   (.seq
    (.reg none [⟨(some 3), .mv (.t 0), none⟩,
      ⟨(some 4), .mv (.t 0), none⟩,
      ⟨(some 5), .len (.t 4), none⟩,
      ⟨(some 6), .mn [(.t 5), (.c (.int .i64 11))], none⟩,
      ⟨(some 7), .slice 1 (.t 3) none (some (.t 6)) none, none⟩,
      ⟨(some 8), .call 82 [(.t 7)], none⟩,
      ⟨(some 2), .mv (.t 8), none⟩])
    .ret)) }
theorem f35P : prepF C Try.f35 = some f35A := by kernel_rfl

/-- congou/congouref09.Alike -/
def f36A : AFunc :=
{ nargs := 2, res := [.t 4], body :=
  (.seq
   (.reg none [⟨(some 2), .box (.t 0), none⟩,
     ⟨(some 3), .box (.t 1), none⟩,
     ⟨(some 4), .mv (.c (.b false)), none⟩])
   (.seq
    (.reg (some []) [⟨(some 5), .load (some 2) (.t 2), none⟩,
      ⟨(some 6), .call 38 [(.t 5)], none⟩,
      ⟨(some 7), .mv (.t 6), none⟩,
      ⟨(some 8), .load (some 2) (.t 3), some (7, true)⟩,
      ⟨(some 9), .call 38 [(.t 8)], some (7, true)⟩,
      ⟨(some 10), .pick (.t 7) (.t 9) (.c (.b false)), none⟩,
      ⟨(some 11), .mv (.t 10), none⟩,
      ⟨(some 12), .faddr 0 (.t 2), some (11, true)⟩,
      ⟨(some 13), .load none (.t 12), some (11, true)⟩,
      ⟨(some 14), .faddr 0 (.t 3), some (11, true)⟩,
      ⟨(some 15), .load none (.t 14), some (11, true)⟩,
      ⟨(some 16), .bin .eql (.t 13) (.t 15), some (11, true)⟩,
      ⟨(some 17), .pick (.t 11) (.t 16) (.c (.b false)), none⟩,
      ⟨(some 18), .mv (.t 17), none⟩,
      ⟨(some 19), .load (some 2) (.t 2), some (18, true)⟩,
      ⟨(some 20), .call 39 [(.t 19)], some (18, true)⟩,
      ⟨(some 21), .load (some 2) (.t 3), some (18, true)⟩,
      ⟨(some 22), .call 39 [(.t 21)], some (18, true)⟩,
      ⟨(some 23), .bin .eql (.t 20) (.t 22), some (18, true)⟩,
      ⟨(some 24), .pick (.t 18) (.t 23) (.c (.b false)), none⟩,
      ⟨(some 4), .mv (.t 24), none⟩])
    .ret)) }
theorem f36P : prepF C Try.f36 = some f36A := by kernel_rfl

/-- congou/congouref09.Valid -/
def f38A : AFunc :=
{ nargs := 1, res := [.t 2], body :=
  (.seq
   (.reg none [⟨(some 1), .box (.t 0), none⟩,
     ⟨(some 2), .mv (.c (.b false)), none⟩])
   (.seq
    (.seq
     (.reg none [⟨(some 7), .faddr 0 (.t 1), none⟩,
       ⟨(some 8), .load none (.t 7), none⟩,
       ⟨(some 9), .bin .lss (.t 8) (.c (.int .i64 2)), none⟩,
       ⟨(some 10), .mv (.t 9), none⟩,
       ⟨(some 11), .faddr 0 (.t 1), some (10, false)⟩,
       ⟨(some 12), .load none (.t 11), some (10, false)⟩,
       ⟨(some 13), .bin .gtr (.t 12) (.c (.int .i64 4)), some (10, false)⟩,
       ⟨(some 14), .pick (.t 10) (.c (.b true)) (.t 13), none⟩,
       ⟨(some 15), .mv (.t 14), none⟩,
       ⟨(some 16), .faddr 1 (.t 1), some (15, false)⟩,
       ⟨(some 17), .load none (.t 16), some (15, false)⟩,
       ⟨(some 18), .len (.t 17), some (15, false)⟩,
       ⟨(some 19), .bin .lss (.t 18) (.c (.int .i64 1)), some (15, false)⟩,
       ⟨(some 20), .pick (.t 15) (.c (.b true)) (.t 19), none⟩,
       ⟨(some 21), .mv (.t 20), none⟩,
       ⟨(some 22), .faddr 1 (.t 1), some (21, false)⟩,
       ⟨(some 23), .load none (.t 22), some (21, false)⟩,
       ⟨(some 24), .len (.t 23), some (21, false)⟩,
       ⟨(some 25), .bin .gtr (.t 24) (.c (.int .i64 16)), some (21, false)⟩,
       ⟨(some 26), .pick (.t 21) (.c (.b true)) (.t 25), none⟩])
     (.cond (.t 26)
      (.seq
       (.reg none [⟨(some 2), .mv (.c (.b false)), none⟩])
       .ret)
      .skip))
    (.seq
     (.seq
      (.reg none [⟨(some 27), .faddr 1 (.t 1), none⟩,
        ⟨(some 28), .load none (.t 27), none⟩,
        ⟨(some 29), .len (.t 28), none⟩,
        ⟨(some 30), .mv (.c (.int .i64 0)), none⟩])
      (.block 0
       (.loop
        (.seq
         (.reg none [⟨(some 31), .bin .lss (.t 30) (.t 29), none⟩])
         (.seq
          (.cond (.t 31)
           .skip
           (.exit 0))
          (.seq
           (.block 1
            (.seq
             (.reg none [⟨(some 32), .iaddr 1 (.t 28) (.t 30), none⟩,
               ⟨(some 33), .load none (.t 32), none⟩,
               ⟨(some 4), .mv (.t 33), none⟩])
             (.seq
              (.seq
               (.reg none [⟨(some 34), .mv (.t 4), none⟩,
                 ⟨(some 35), .len (.t 34), none⟩,
                 ⟨(some 36), .faddr 1 (.t 1), none⟩,
                 ⟨(some 37), .load none (.t 36), none⟩,
                 ⟨(some 38), .iaddr 1 (.t 37) (.c (.int .i64 0)), none⟩,
                 ⟨(some 39), .load none (.t 38), none⟩,
                 ⟨(some 40), .len (.t 39), none⟩,
                 ⟨(some 41), .bin .neq (.t 35) (.t 40), none⟩,
                 ⟨(some 42), .mv (.t 41), none⟩,
                 ⟨(some 43), .mv (.t 4), some (42, false)⟩,
                 ⟨(some 44), .len (.t 43), some (42, false)⟩,
                 ⟨(some 45), .bin .lss (.t 44) (.c (.int .i64 1)), some (42, false)⟩,
                 ⟨(some 46), .pick (.t 42) (.c (.b true)) (.t 45), none⟩,
                 ⟨(some 47), .mv (.t 46), none⟩,
                 ⟨(some 48), .mv (.t 4), some (47, false)⟩,
                 ⟨(some 49), .len (.t 48), some (47, false)⟩,
                 ⟨(some 50), .bin .gtr (.t 49) (.c (.int .i64 8)), some (47, false)⟩,
                 ⟨(some 51), .pick (.t 47) (.c (.b true)) (.t 50), none⟩])
               (.cond (.t 51)
                (.seq
                 (.reg none [⟨(some 2), .mv (.c (.b false)), none⟩])
                 .ret)
                .skip))
              (.seq
               (.reg none [⟨(some 52), .mv (.t 4), none⟩,
                 ⟨(some 53), .len (.t 52), none⟩,
                 ⟨(some 54), .mv (.c (.int .i64 0)), none⟩])
               (.block 2
                (.loop
                 (.seq
                  (.reg none [⟨(some 55), .bin .lss (.t 54) (.t 53), none⟩])
                  (.seq
                   (.cond (.t 55)
                    .skip
                    (.exit 2))
                   (.seq
                    (.block 3
                     (.seq
                      (.reg none [⟨(some 56), .iaddr 1 (.t 52) (.t 54), none⟩,
                        ⟨(some 57), .load none (.t 56), none⟩,
                        ⟨(some 6), .mv (.t 57), none⟩])
                      (.seq
                       (.reg none [⟨(some 58), .mv (.t 6), none⟩,
                         ⟨(some 59), .bin .lss (.t 58) (.c (.int .i64 0)), none⟩,
                         ⟨(some 60), .mv (.t 59), none⟩,
                         ⟨(some 61), .mv (.t 6), some (60, false)⟩,
                         ⟨(some 62), .faddr 0 (.t 1), some (60, false)⟩,
                         ⟨(some 63), .load none (.t 62), some (60, false)⟩,
                         ⟨(some 64), .bin .geq (.t 61) (.t 63), some (60, false)⟩,
                         ⟨(some 65), .pick (.t 60) (.c (.b true)) (.t 64), none⟩])
                       (.cond (.t 65)
                        (.seq
                         (.reg none [⟨(some 2), .mv (.c (.b false)), none⟩])
                         .ret)
                        .skip))))
                    (.reg none [⟨(some 66), .bin .add (.t 54) (.c (.int .i64 1)), none⟩,
                      ⟨(some 54), .mv (.t 66), none⟩]))))))))))
           (.reg none [⟨(some 67), .bin .add (.t 30) (.c (.int .i64 1)), none⟩,
             ⟨(some 30), .mv (.t 67), none⟩])))))))
     (.seq
      (.reg none [⟨(some 2), .mv (.c (.b true)), none⟩])
      .ret)))) }
theorem f38P : prepF C Try.f38 = some f38A := by kernel_rfl

/-- congou/congouref09.Width -/
def f39A : AFunc :=
{ nargs := 1, res := [.t 2], body :=
  (.seq
   (.reg none [⟨(some 1), .box (.t 0), none⟩,
     ⟨(some 2), .mv (.c (.int .i64 0)), none⟩])
   (.seq
    (.reg none [⟨(some 3), .faddr 1 (.t 1), none⟩,
      ⟨(some 4), .load none (.t 3), none⟩,
      ⟨(some 5), .iaddr 1 (.t 4) (.c (.int .i64 0)), none⟩,
      ⟨(some 6), .load none (.t 5), none⟩,
      ⟨(some 7), .len (.t 6), none⟩,
      ⟨(some 2), .mv (.t 7), none⟩])
    .ret)) }
theorem f39P : prepF C Try.f39 = some f39A := by kernel_rfl

/-- congou/arrays.Covers -/
def f46A : AFunc :=
{ nargs := 2, res := [.c 4 none, .c 5 none], body :=
  (.seq
   (.reg none [⟨(some 2), .box (.t 0), none⟩,
     ⟨(some 4), .alloc [(.b false)], none⟩,
     ⟨(some 5), .alloc [(.int .i64 0)], none⟩])
   (.seq
    (.seq
     (.reg none [⟨(some 8), .load (some 2) (.t 2), none⟩,
       ⟨(some 9), .mv (.t 1), none⟩,
       ⟨(some 10), .call 86 [(.t 8), (.t 9), (.c (.int .i64 3))], none⟩,
       ⟨(some 11), .un .not (.t 10), none⟩])
     (.cond (.t 11)
      (.seq
       (.reg none [⟨none, .store 1 (.t 4) (.c (.b false)), none⟩,
         ⟨none, .store 1 (.t 5) (.c (.int .i64 2)), none⟩])
       .ret)
      .skip))
    (.seq
     (.seq
      (.reg none [⟨(some 12), .load (some 2) (.t 2), none⟩,
        ⟨(some 13), .mv (.t 1), none⟩,
        ⟨(some 14), .call 87 [(.t 12), (.t 13)], none⟩])
      (.block 0
       (.rangeF 19 (.t 14) [15, 16]
        (.reg none [⟨(some 7), .mv (.t 16), none⟩])
        (.block 1
         (.seq
          (.reg none [⟨(some 17), .mv (.t 7), none⟩,
            ⟨(some 18), .bin .eql (.t 17) (.c (.int .i64 0)), none⟩])
          (.cond (.t 18)
           (.seq
            (.reg none [⟨none, .store 1 (.t 4) (.c (.b false)), none⟩,
              ⟨none, .store 1 (.t 5) (.c (.int .i64 0)), none⟩])
            .ret)
           .skip))))))
     (.seq
      (.reg none [⟨none, .store 1 (.t 4) (.c (.b true)), none⟩,
        ⟨none, .store 1 (.t 5) (.c (.int .i64 0)), none⟩])
      .ret)))) }
theorem f46P : prepF C Try.f46 = some f46A := by kernel_rfl

/-- congou/arrays.Distance -/
def f47A : AFunc :=
{ nargs := 1, res := [.t 2, .t 3], body :=
  (.seq
   (.reg none [⟨(some 1), .box (.t 0), none⟩,
     ⟨(some 2), .mv (.c (.int .i64 0)), none⟩,
     ⟨(some 3), .mv (.c (.int .i64 0)), none⟩])
   (.seq
    (.block 0
     (.seq
      (.reg none [⟨(some 12), .load (some 2) (.t 1), none⟩,
        ⟨(some 13), .call 74 [(.t 12)], none⟩,
        ⟨(some 14), .un .not (.t 13), none⟩,
        ⟨(some 11), .mv (.t 14), none⟩])
      (.cond (.t 11)
       (.seq
        (.reg none [⟨(some 2), .mv (.c (.int .i64 0)), none⟩,
          ⟨(some 3), .mv (.c (.int .i64 2)), none⟩])
        .ret)
       (.seq
        (.reg none [⟨(some 16), .faddr 1 (.t 1), none⟩,
          ⟨(some 17), .load none (.t 16), none⟩,
          ⟨(some 18), .len (.t 17), none⟩,
          ⟨(some 19), .bin .eql (.t 18) (.c (.int .i64 1)), none⟩,
          ⟨(some 15), .mv (.t 19), none⟩])
        (.cond (.t 15)
         (.seq
          (.reg none [⟨(some 2), .mv (.c (.int .i64 0)), none⟩,
            ⟨(some 3), .mv (.c (.int .i64 4)), none⟩])
          .ret)
         .skip)))))
    (.seq
     (.reg none [⟨(some 20), .load (some 2) (.t 1), none⟩,
       ⟨(some 21), .call 75 [(.t 20)], none⟩,
       ⟨(some 4), .mv (.t 21), none⟩])
     (.seq
      (.seq
       (.reg none [⟨(some 22), .faddr 1 (.t 1), none⟩,
         ⟨(some 23), .load none (.t 22), none⟩,
         ⟨(some 24), .len (.t 23), none⟩,
         ⟨(some 25), .mv (.c (.int .i64 0)), none⟩])
       (.block 1
        (.loop
         (.seq
          (.reg none [⟨(some 26), .bin .lss (.t 25) (.t 24), none⟩])
          (.seq
           (.cond (.t 26)
            .skip
            (.exit 1))
           (.seq
            (.block 2
             (.seq
              (.reg none [⟨(some 27), .mv (.t 25), none⟩,
                ⟨(some 28), .iaddr 1 (.t 23) (.t 25), none⟩,
                ⟨(some 29), .load none (.t 28), none⟩,
                ⟨(some 5), .mv (.t 27), none⟩,
                ⟨(some 6), .mv (.t 29), none⟩])
              (.seq
               (.reg none [⟨(some 30), .faddr 1 (.t 1), none⟩,
                 ⟨(some 31), .load none (.t 30), none⟩,
                 ⟨(some 32), .mv (.t 5), none⟩,
                 ⟨(some 33), .slice 1 (.t 31) none (some (.t 32)) none, none⟩,
                 ⟨(some 34), .len (.t 33), none⟩,
                 ⟨(some 35), .mv (.c (.int .i64 0)), none⟩])
               (.block 3
                (.loop
                 (.seq
                  (.reg none [⟨(some 36), .bin .lss (.t 35) (.t 34), none⟩])
                  (.seq
                   (.cond (.t 36)
                    .skip
                    (.exit 3))
                   (.seq
                    (.block 4
                     (.seq
                      (.reg none [⟨(some 37), .iaddr 1 (.t 33) (.t 35), none⟩,
                        ⟨(some 38), .load none (.t 37), none⟩,
                        ⟨(some 8), .mv (.t 38), none⟩])
                      (.seq
                       (.reg none [⟨(some 9), .mv (.c (.int .i64 0)), none⟩])
                       (.seq
                        (.seq
                         (.reg none [⟨(some 39), .mv (.t 6), none⟩,
                           ⟨(some 40), .len (.t 39), none⟩,
                           ⟨(some 41), .mv (.c (.int .i64 0)), none⟩])
                         (.block 5
                          (.loop
                           (.seq
                            (.reg none [⟨(some 42), .bin .lss (.t 41) (.t 40), none⟩])
                            (.seq
                             (.cond (.t 42)
                              .skip
                              (.exit 5))
                             (.seq
                              (.block 6
                               (.seq
                                (.reg none [⟨(some 43), .mv (.t 41), none⟩,
                                  ⟨(some 10), .mv (.t 43), none⟩])
                                (.seq
                                 (.reg (some []) [⟨(some 44), .mv (.t 6), none⟩,
                                   ⟨(some 45), .mv (.t 10), none⟩,
                                   ⟨(some 46), .iaddr 1 (.t 44) (.t 45), none⟩,
                                   ⟨(some 47), .load none (.t 46), none⟩,
                                   ⟨(some 48), .mv (.t 8), none⟩,
                                   ⟨(some 49), .mv (.t 10), none⟩,
                                   ⟨(some 50), .iaddr 1 (.t 48) (.t 49), none⟩,
                                   ⟨(some 51), .load none (.t 50), none⟩,
                                   ⟨(some 52), .bin .neq (.t 47) (.t 51), none⟩])
                                 (.cond (.t 52)
                                  (.reg none [⟨(some 53), .mv (.t 9), none⟩,
                                    ⟨(some 54), .bin .add (.t 53) (.c (.int .i64 1)), none⟩,
                                    ⟨(some 9), .mv (.t 54), none⟩])
                                  .skip))))
                              (.reg none [⟨(some 55), .bin .add (.t 41) (.c (.int .i64 1)), none⟩,
                                ⟨(some 41), .mv (.t 55), none⟩])))))))
                        (.reg none [⟨(some 56), .mv (.t 4), none⟩,
                          ⟨(some 57), .mv (.t 9), none⟩,
                          ⟨(some 58), .mn [(.t 56), (.t 57)], none⟩,
                          ⟨(some 4), .mv (.t 58), none⟩])))))
                    (.reg none [⟨(some 59), .bin .add (.t 35) (.c (.int .i64 1)), none⟩,
                      ⟨(some 35), .mv (.t 59), none⟩])))))))))
            (.reg none [⟨(some 60), .bin .add (.t 25) (.c (.int .i64 1)), none⟩,
              ⟨(some 25), .mv (.t 60), none⟩])))))))
      (.seq
       (.reg none [⟨(some 61), .mv (.t 4), none⟩,
         ⟨(some 2), .mv (.t 61), none⟩,
         ⟨(some 3), .mv (.c (.int .i64 0)), none⟩])
       .ret))))) }
theorem f47P : prepF C Try.f47 = some f47A := by kernel_rfl

/-- congou/arrays.Index -/
def f48A : AFunc :=
{ nargs := 2, res := [.t 4, .t 5], body :=
  (.seq
   (.reg none [⟨(some 2), .box (.t 0), none⟩,
     ⟨(some 4), .mv (.c (.int .i64 0)), none⟩,
     ⟨(some 5), .mv (.c (.int .i64 0)), none⟩])
   (.seq
    (.seq
     (.reg none [⟨(some 7), .load (some 2) (.t 2), none⟩,
       ⟨(some 8), .mv (.t 1), none⟩,
       ⟨(some 9), .call 86 [(.t 7), (.t 8), (.c (.int .i64 3))], none⟩,
       ⟨(some 10), .un .not (.t 9), none⟩])
     (.cond (.t 10)
      (.seq
       (.reg none [⟨(some 4), .mv (.c (.int .i64 0)), none⟩,
         ⟨(some 5), .mv (.c (.int .i64 2)), none⟩])
       .ret)
      .skip))
    (.seq
     (.reg none [⟨(some 11), .load (some 2) (.t 2), none⟩,
       ⟨(some 12), .mv (.t 1), none⟩,
       ⟨(some 13), .call 88 [(.t 11), (.t 12)], none⟩,
       ⟨(some 6), .mv (.t 13), none⟩])
     (.seq
      (.seq
       (.reg none [⟨(some 14), .mv (.t 6), none⟩,
         ⟨(some 15), .bin .eql (.t 14) (.c (.int .i64 0)), none⟩])
       (.cond (.t 15)
        (.seq
         (.reg none [⟨(some 4), .mv (.c (.int .i64 0)), none⟩,
           ⟨(some 5), .mv (.c (.int .i64 4)), none⟩])
         .ret)
        .skip))
      (.seq
       (.reg none [⟨(some 16), .mv (.t 6), none⟩,
         ⟨(some 4), .mv (.t 16), none⟩,
         ⟨(some 5), .mv (.c (.int .i64 0)), none⟩])
       .ret))))) }
theorem f48P : prepF C Try.f48 = some f48A := by kernel_rfl

/-- congou/congouref09.Deep -/
def f52A : AFunc :=
{ nargs := 2, res := [.t 4], body :=
  (.seq
   (.reg none [⟨(some 2), .box (.t 0), none⟩,
     ⟨(some 4), .mv (.c (.b false)), none⟩])
   (.seq
    (.reg none [⟨(some 5), .load (some 2) (.t 2), none⟩,
      ⟨(some 6), .call 38 [(.t 5)], none⟩,
      ⟨(some 7), .mv (.t 6), none⟩,
      ⟨(some 8), .mv (.t 1), some (7, true)⟩,
      ⟨(some 9), .bin .geq (.t 8) (.c (.int .i64 1)), some (7, true)⟩,
      ⟨(some 10), .pick (.t 7) (.t 9) (.c (.b false)), none⟩,
      ⟨(some 11), .mv (.t 10), none⟩,
      ⟨(some 12), .mv (.t 1), some (11, true)⟩,
      ⟨(some 13), .bin .leq (.t 12) (.c (.int .i64 3)), some (11, true)⟩,
      ⟨(some 14), .pick (.t 11) (.t 13) (.c (.b false)), none⟩,
      ⟨(some 15), .mv (.t 14), none⟩,
      ⟨(some 16), .mv (.t 1), some (15, true)⟩,
      ⟨(some 17), .load (some 2) (.t 2), some (15, true)⟩,
      ⟨(some 18), .call 39 [(.t 17)], some (15, true)⟩,
      ⟨(some 19), .bin .leq (.t 16) (.t 18), some (15, true)⟩,
      ⟨(some 20), .pick (.t 15) (.t 19) (.c (.b false)), none⟩,
      ⟨(some 4), .mv (.t 20), none⟩])
    .ret)) }
theorem f52P : prepF C Try.f52 = some f52A := by kernel_rfl

/-- slices.Equal[[]int,int] -/
def f55A : AFunc :=
{ nargs := 2, res := [.t 4], body :=
  (.seq
   (.reg none [⟨(some 4), .mv (.c (.b false)), none⟩])
   (.seq
    (.seq
     (.reg none [⟨(some 6), .mv (.t 0), none⟩,
       ⟨(some 7), .len (.t 6), none⟩,
       ⟨(some 8), .mv (.t 1), none⟩,
       ⟨(some 9), .len (.t 8), none⟩,
       ⟨(some 10), .bin .neq (.t 7) (.t 9), none⟩])
     (.cond (.t 10)
      (.seq
       (.reg none [⟨(some 4), .mv (.c (.b false)), none⟩])
       .ret)
      .skip))
    (.seq
     (.seq
      (.reg none [⟨(some 11), .mv (.t 0), none⟩,
        ⟨(some 12), .len (.t 11), none⟩,
        ⟨(some 13), .mv (.c (.int .i64 0)), none⟩])
      (.block 0
       (.loop
        (.seq
         (.reg none [⟨(some 14), .bin .lss (.t 13) (.t 12), none⟩])
         (.seq
          (.cond (.t 14)
           .skip
           (.exit 0))
          (.seq
           (.block 1
            (.seq
             (.reg none [⟨(some 15), .mv (.t 13), none⟩,
               ⟨(some 5), .mv (.t 15), none⟩])
             (.seq
              (.reg (some []) [⟨(some 16), .mv (.t 0), none⟩,
                ⟨(some 17), .mv (.t 5), none⟩,
                ⟨(some 18), .iaddr 1 (.t 16) (.t 17), none⟩,
                ⟨(some 19), .load none (.t 18), none⟩,
                ⟨(some 20), .mv (.t 1), none⟩,
                ⟨(some 21), .mv (.t 5), none⟩,
                ⟨(some 22), .iaddr 1 (.t 20) (.t 21), none⟩,
                ⟨(some 23), .load none (.t 22), none⟩,
                ⟨(some 24), .bin .neq (.t 19) (.t 23), none⟩])
              (.cond (.t 24)
               (.seq
                (.reg none [⟨(some 4), .mv (.c (.b false)), none⟩])
                .ret)
               .skip))))
           (.reg none [⟨(some 25), .bin .add (.t 13) (.c (.int .i64 1)), none⟩,
             ⟨(some 13), .mv (.t 25), none⟩])))))))
     (.seq
      (.reg none [⟨(some 4), .mv (.c (.b true)), none⟩])
      .ret)))) }
theorem f55P : prepF C Try.f55 = some f55A := by kernel_rfl

/-- congou/arrays.Missing -/
def f61A : AFunc :=
{ nargs := 2, res := [.t 4, .t 5], body :=
  (.seq
   (.reg none [⟨(some 2), .box (.t 0), none⟩,
     ⟨(some 4), .mv (.c .nils), none⟩,
     ⟨(some 5), .mv (.c (.int .i64 0)), none⟩])
   (.seq
    (.seq
     (.reg none [⟨(some 6), .load (some 2) (.t 2), none⟩,
       ⟨(some 7), .mv (.t 1), none⟩,
       ⟨(some 8), .call 86 [(.t 6), (.t 7), (.c (.int .i64 2))], none⟩,
       ⟨(some 9), .un .not (.t 8), none⟩])
     (.cond (.t 9)
      (.seq
       (.reg none [⟨(some 4), .mv (.c .nils), none⟩,
         ⟨(some 5), .mv (.c (.int .i64 2)), none⟩])
       .ret)
      .skip))
    (.seq
     (.reg none [⟨(some 10), .load (some 2) (.t 2), none⟩,
       ⟨(some 11), .mv (.t 1), none⟩,
       ⟨(some 12), .call 84 [(.t 10), (.t 11)], none⟩,
       ⟨(some 4), .mv (.t 12), none⟩,
       ⟨(some 5), .mv (.c (.int .i64 0)), none⟩])
     .ret))) }
theorem f61P : prepF C Try.f61 = some f61A := by kernel_rfl

/-- slices.EqualFunc[[][]int,[][]int,[]int,[]int] -/
def f65A : AFunc :=
{ nargs := 3, res := [.t 6], body :=
  (.seq
   (.reg none [⟨(some 6), .mv (.c (.b false)), none⟩])
   (.seq
    (.seq
     (.reg none [⟨(some 10), .mv (.t 0), none⟩,
       ⟨(some 11), .len (.t 10), none⟩,
       ⟨(some 12), .mv (.t 1), none⟩,
       ⟨(some 13), .len (.t 12), none⟩,
       ⟨(some 14), .bin .neq (.t 11) (.t 13), none⟩])
     (.cond (.t 14)
      (.seq
       (.reg none [⟨(some 6), .mv (.c (.b false)), none⟩])
       .ret)
      .skip))
    (.seq
     (.seq
      (.reg none [⟨(some 15), .mv (.t 0), none⟩,
        ⟨(some 16), .len (.t 15), none⟩,
        ⟨(some 17), .mv (.c (.int .i64 0)), none⟩])
      (.block 0
       (.loop
        (.seq
         (.reg none [⟨(some 18), .bin .lss (.t 17) (.t 16), none⟩])
         (.seq
          (.cond (.t 18)
           .skip
           (.exit 0))
          (.seq
           (.block 1
            (.seq
             (.reg none [⟨(some 19), .mv (.t 17), none⟩,
               ⟨(some 20), .iaddr 1 (.t 15) (.t 17), none⟩,
               ⟨(some 21), .load none (.t 20), none⟩,
               ⟨(some 7), .mv (.t 19), none⟩,
               ⟨(some 8), .mv (.t 21), none⟩])
             (.seq
              (.reg none [⟨(some 22), .mv (.t 1), none⟩,
                ⟨(some 23), .mv (.t 7), none⟩,
                ⟨(some 24), .iaddr 1 (.t 22) (.t 23), none⟩,
                ⟨(some 25), .load none (.t 24), none⟩,
                ⟨(some 9), .mv (.t 25), none⟩])
              (.seq
               (.reg none [⟨(some 26), .mv (.t 2), none⟩,
                 ⟨(some 27), .mv (.t 8), none⟩,
                 ⟨(some 28), .mv (.t 9), none⟩,
                 ⟨(some 29), .callv (.t 26) [(.t 27), (.t 28)], none⟩,
                 ⟨(some 30), .un .not (.t 29), none⟩])
               (.cond (.t 30)
                (.seq
                 (.reg none [⟨(some 6), .mv (.c (.b false)), none⟩])
                 .ret)
                .skip)))))
           (.reg none [⟨(some 31), .bin .add (.t 17) (.c (.int .i64 1)), none⟩,
             ⟨(some 17), .mv (.t 31), none⟩])))))))
     (.seq
      (.reg none [⟨(some 6), .mv (.c (.b true)), none⟩])
      .ret)))) }
theorem f65P : prepF C Try.f65 = some f65A := by kernel_rfl

/-- slices.ContainsFunc[[][]int,[]int] -/
def f68A : AFunc :=
{ nargs := 2, res := [.t 4], body :=
  (.seq
   (.reg none [⟨(some 4), .mv (.c (.b false)), none⟩])
   (.seq
    (.reg none [⟨(some 5), .mv (.t 0), none⟩,
      ⟨(some 6), .mv (.t 1), none⟩,
      ⟨(some 7), .call 94 [(.t 5), (.t 6)], none⟩,
      ⟨(some 8), .bin .geq (.t 7) (.c (.int .i64 0)), none⟩,
      ⟨(some 4), .mv (.t 8), none⟩])
    .ret)) }
theorem f68P : prepF C Try.f68 = some f68A := by kernel_rfl

/-- congou/congoulaw09.ArraysTogether$1 -/
def f70A : AFunc :=
{ nargs := 2, res := [.t 3], body :=
  (.seq
   (.reg none [⟨(some 3), .mv (.c (.b false)), none⟩])
   (.seq
    (.reg none [⟨(some 4), .load none (.t 1), none⟩,
      ⟨(some 5), .mv (.t 0), none⟩,
      ⟨(some 6), .call 55 [(.t 4), (.t 5)], none⟩,
      ⟨(some 3), .mv (.t 6), none⟩])
    .ret)) }
theorem f70P : prepF C Try.f70 = some f70A := by kernel_rfl

/-- congou/arrays.tuples -/
def f72A : AFunc :=
{ nargs := 3, res := [.t 6], body :=
  (.seq
   (.reg none [⟨(some 3), .box (.t 0), none⟩,
     ⟨(some 4), .box (.t 1), none⟩,
     ⟨(some 5), .box (.t 2), none⟩,
     ⟨(some 6), .mv (.c .nilf), none⟩])
   (.seq
    (.reg none [⟨(some 7), .mkfn 96 [] [(.t 3), (.t 5), (.t 4)], none⟩,
      ⟨(some 6), .mv (.t 7), none⟩])
    .ret)) }
theorem f72P : prepF C Try.f72 = some f72A := by kernel_rfl

/-- (congou/arrays.Array).valid -/
def f74A : AFunc :=
{ nargs := 1, res := [.t 2], body :=
  (.seq
   (.reg none [⟨(some 1), .box (.t 0), none⟩,
     ⟨(some 2), .mv (.c (.b false)), none⟩])
   (.seq
    (.seq
     (.reg none [⟨(some 5), .faddr 0 (.t 1), none⟩,
       ⟨(some 6), .load none (.t 5), none⟩,
       ⟨(some 7), .bin .lss (.t 6) (.c (.int .i64 2)), none⟩,
       ⟨(some 8), .mv (.t 7), none⟩,
       ⟨(some 9), .faddr 0 (.t 1), some (8, false)⟩,
       ⟨(some 10), .load none (.t 9), some (8, false)⟩,
       ⟨(some 11), .bin .gtr (.t 10) (.c (.int .i64 4)), some (8, false)⟩,
       ⟨(some 12), .pick (.t 8) (.c (.b true)) (.t 11), none⟩,
       ⟨(some 13), .mv (.t 12), none⟩,
       ⟨(some 14), .faddr 1 (.t 1), some (13, false)⟩,
       ⟨(some 15), .load none (.t 14), some (13, false)⟩,
       ⟨(some 16), .len (.t 15), some (13, false)⟩,
       ⟨(some 17), .bin .lss (.t 16) (.c (.int .i64 1)), some (13, false)⟩,
       ⟨(some 18), .pick (.t 13) (.c (.b true)) (.t 17), none⟩,
       ⟨(some 19), .mv (.t 18), none⟩,
       ⟨(some 20), .faddr 1 (.t 1), some (19, false)⟩,
       ⟨(some 21), .load none (.t 20), some (19, false)⟩,
       ⟨(some 22), .len (.t 21), some (19, false)⟩,
       ⟨(some 23), .bin .gtr (.t 22) (.c (.int .i64 16)), some (19, false)⟩,
       ⟨(some 24), .pick (.t 19) (.c (.b true)) (.t 23), none⟩])
     (.cond (.t 24)
      (.seq
       (.reg none [⟨(some 2), .mv (.c (.b false)), none⟩])
       .ret)
      .skip))
    (.seq
     (.seq
      (.reg none [⟨(some 25), .faddr 1 (.t 1), none⟩,
        ⟨(some 26), .load none (.t 25), none⟩,
        ⟨(some 27), .len (.t 26), none⟩,
        ⟨(some 28), .mv (.c (.int .i64 0)), none⟩])
      (.block 0
       (.loop
        (.seq
         (.reg none [⟨(some 29), .bin .lss (.t 28) (.t 27), none⟩])
         (.seq
          (.cond (.t 29)
           .skip
           (.exit 0))
          (.seq
           (.block 1
            (.seq
             (.reg none [⟨(some 30), .iaddr 1 (.t 26) (.t 28), none⟩,
               ⟨(some 31), .load none (.t 30), none⟩,
               ⟨(some 4), .mv (.t 31), none⟩])
             (.seq
              (.reg (some []) [⟨(some 32), .mv (.t 4), none⟩,
                ⟨(some 33), .len (.t 32), none⟩,
                ⟨(some 34), .bin .lss (.t 33) (.c (.int .i64 1)), none⟩,
                ⟨(some 35), .mv (.t 34), none⟩,
                ⟨(some 36), .mv (.t 4), some (35, false)⟩,
                ⟨(some 37), .len (.t 36), some (35, false)⟩,
                ⟨(some 38), .bin .gtr (.t 37) (.c (.int .i64 8)), some (35, false)⟩,
                ⟨(some 39), .pick (.t 35) (.c (.b true)) (.t 38), none⟩,
                ⟨(some 40), .mv (.t 39), none⟩,
                ⟨(some 41), .mv (.t 4), some (40, false)⟩,
                ⟨(some 42), .len (.t 41), some (40, false)⟩,
                ⟨(some 43), .faddr 1 (.t 1), some (40, false)⟩,
                ⟨(some 44), .load none (.t 43), some (40, false)⟩,
                ⟨(some 45), .iaddr 1 (.t 44) (.c (.int .i64 0)), some (40, false)⟩,
                ⟨(some 46), .load none (.t 45), some (40, false)⟩,
                ⟨(some 47), .len (.t 46), some (40, false)⟩,
                ⟨(some 48), .bin .neq (.t 42) (.t 47), some (40, false)⟩,
                ⟨(some 49), .pick (.t 40) (.c (.b true)) (.t 48), none⟩,
                ⟨(some 50), .mv (.t 49), none⟩,
                ⟨(some 51), .mv (.t 4), some (50, false)⟩,
                ⟨(some 52), .call 98 [(.t 51)], some (50, false)⟩,
                ⟨(some 53), .bin .lss (.t 52) (.c (.int .i64 0)), some (50, false)⟩,
                ⟨(some 54), .pick (.t 50) (.c (.b true)) (.t 53), none⟩,
                ⟨(some 55), .mv (.t 54), none⟩,
                ⟨(some 56), .mv (.t 4), some (55, false)⟩,
                ⟨(some 57), .call 99 [(.t 56)], some (55, false)⟩,
                ⟨(some 58), .faddr 0 (.t 1), some (55, false)⟩,
                ⟨(some 59), .load none (.t 58), some (55, false)⟩,
                ⟨(some 60), .bin .geq (.t 57) (.t 59), some (55, false)⟩,
                ⟨(some 61), .pick (.t 55) (.c (.b true)) (.t 60), none⟩])
              (.cond (.t 61)
               (.seq
                (.reg none [⟨(some 2), .mv (.c (.b false)), none⟩])
                .ret)
               .skip))))
           (.reg none [⟨(some 62), .bin .add (.t 28) (.c (.int .i64 1)), none⟩,
             ⟨(some 28), .mv (.t 62), none⟩])))))))
     (.seq
      (.reg none [⟨(some 2), .mv (.c (.b true)), none⟩])
      .ret)))) }
theorem f74P : prepF C Try.f74 = some f74A := by kernel_rfl

/-- (congou/arrays.Array).columns -/
def f75A : AFunc :=
{ nargs := 1, res := [.t 2], body :=
  (.seq
   (.reg none [⟨(some 1), .box (.t 0), none⟩,
     ⟨(some 2), .mv (.c (.int .i64 0)), none⟩])
   (.seq
    (.reg none [⟨(some 3), .faddr 1 (.t 1), none⟩,
      ⟨(some 4), .load none (.t 3), none⟩,
      ⟨(some 5), .iaddr 1 (.t 4) (.c (.int .i64 0)), none⟩,
      ⟨(some 6), .load none (.t 5), none⟩,
      ⟨(some 7), .len (.t 6), none⟩,
      ⟨(some 2), .mv (.t 7), none⟩])
    .ret)) }
theorem f75P : prepF C Try.f75 = some f75A := by kernel_rfl

/-- slices.Concat[[][]int,[]int] -/
def f76A : AFunc :=
{ nargs := 1, res := [.t 2], body :=
  (.seq
   (.reg none [⟨(some 2), .mv (.c .nils), none⟩])
   (.seq
    (.reg none [⟨(some 3), .mv (.c (.int .i64 0)), none⟩])
    (.seq
     (.seq
      (.reg none [⟨(some 9), .mv (.t 0), none⟩,
        ⟨(some 10), .len (.t 9), none⟩,
        ⟨(some 11), .mv (.c (.int .i64 0)), none⟩])
      (.block 0
       (.loop
        (.seq
         (.reg none [⟨(some 12), .bin .lss (.t 11) (.t 10), none⟩])
         (.seq
          (.cond (.t 12)
           .skip
           (.exit 0))
          (.seq
           (.block 1
            (.seq
             (.reg none [⟨(some 13), .iaddr 1 (.t 9) (.t 11), none⟩,
               ⟨(some 14), .load none (.t 13), none⟩,
               ⟨(some 5), .mv (.t 14), none⟩])
             (.seq
              (.reg none [⟨(some 15), .mv (.t 3), none⟩,
                ⟨(some 16), .mv (.t 5), none⟩,
                ⟨(some 17), .len (.t 16), none⟩,
                ⟨(some 18), .bin .add (.t 15) (.t 17), none⟩,
                ⟨(some 3), .mv (.t 18), none⟩])
              (.seq
               (.reg none [⟨(some 19), .mv (.t 3), none⟩,
                 ⟨(some 20), .bin .lss (.t 19) (.c (.int .i64 0)), none⟩])
               (.cond (.t 20)
                (.reg none [⟨(some 21), .bad, none⟩,
                  ⟨none, .bad, none⟩])
                .skip)))))
           (.reg none [⟨(some 22), .bin .add (.t 11) (.c (.int .i64 1)), none⟩,
             ⟨(some 11), .mv (.t 22), none⟩])))))))
     (.seq
      (.reg none [⟨(some 23), .mv (.t 3), none⟩,
        ⟨(some 24), .call 100 [(.c .nils), (.t 23)], none⟩,
        ⟨(some 6), .mv (.t 24), none⟩])
      (.seq
       (.seq
        (.reg none [⟨(some 25), .mv (.t 0), none⟩,
          ⟨(some 26), .len (.t 25), none⟩,
          ⟨(some 27), .mv (.c (.int .i64 0)), none⟩])
        (.block 2
         (.loop
          (.seq
           (.reg none [⟨(some 28), .bin .lss (.t 27) (.t 26), none⟩])
           (.seq
            (.cond (.t 28)
             .skip
             (.exit 2))
            (.seq
             (.block 3
              (.seq
               (.reg none [⟨(some 29), .iaddr 1 (.t 25) (.t 27), none⟩,
                 ⟨(some 30), .load none (.t 29), none⟩,
                 ⟨(some 8), .mv (.t 30), none⟩])
               (.reg none [⟨(some 31), .mv (.t 6), none⟩,
                 ⟨(some 32), .mv (.t 8), none⟩,
                 ⟨(some 33), .append 1 24 (.t 31) (.t 32), none⟩,
                 ⟨(some 6), .mv (.t 33), none⟩])))
             (.reg none [⟨(some 34), .bin .add (.t 27) (.c (.int .i64 1)), none⟩,
               ⟨(some 27), .mv (.t 34), none⟩])))))))
       (.seq
        (.reg none [⟨(some 35), .mv (.t 6), none⟩,
          ⟨(some 2), .mv (.t 35), none⟩])
        .ret)))))) }
theorem f76P : prepF C Try.f76 = some f76A := by kernel_rfl

/-- (congou/arrays.Array).each -/
def f77A : AFunc :=
{ nargs := 2, res := [.c 4 (some 2)], body :=
  (.seq
   (.reg none [⟨(some 2), .box (.t 0), none⟩,
     ⟨(some 4), .alloc [(.int .i64 0), .nils], none⟩])
   (.seq
    (.reg none [⟨(some 8), .faddr 0 (.t 2), none⟩,
      ⟨(some 9), .load none (.t 8), none⟩,
      ⟨(some 10), .build [(.int .i64 0), .nils] [(0, 1, (.t 9))], none⟩,
      ⟨(some 5), .alloc [(.int .i64 0), .nils], none⟩,
      ⟨none, .store 2 (.t 5) (.t 10), none⟩])
    (.seq
     (.seq
      (.reg none [⟨(some 11), .faddr 1 (.t 2), none⟩,
        ⟨(some 12), .load none (.t 11), none⟩,
        ⟨(some 13), .len (.t 12), none⟩,
        ⟨(some 14), .mv (.c (.int .i64 0)), none⟩])
      (.block 0
       (.loop
        (.seq
         (.reg none [⟨(some 15), .bin .lss (.t 14) (.t 13), none⟩])
         (.seq
          (.cond (.t 15)
           .skip
           (.exit 0))
          (.seq
           (.block 1
            (.seq
             (.reg none [⟨(some 16), .iaddr 1 (.t 12) (.t 14), none⟩,
               ⟨(some 17), .load none (.t 16), none⟩,
               ⟨(some 7), .mv (.t 17), none⟩])
             (.reg (some [(1, 5)]) [⟨(some 18), .faddr 1 (.t 5), none⟩,
               ⟨(some 19), .load none (.t 18), none⟩,
               ⟨(some 20), .mv (.t 1), none⟩,
               ⟨(some 21), .mv (.t 7), none⟩,
               ⟨(some 22), .call 82 [(.t 21)], none⟩,
               ⟨(some 23), .callv (.t 20) [(.t 22)], none⟩,
               ⟨(some 24), .bslice [.nils] 1 1 [(0, (.t 23))], none⟩,
               ⟨(some 25), .append 1 24 (.t 19) (.t 24), none⟩,
               ⟨(some 26), .faddr 1 (.t 5), none⟩,
               ⟨none, .store 1 (.t 26) (.t 25), none⟩])))
           (.reg none [⟨(some 27), .bin .add (.t 14) (.c (.int .i64 1)), none⟩,
             ⟨(some 14), .mv (.t 27), none⟩])))))))
     (.seq
      (.reg none [⟨(some 28), .load (some 2) (.t 5), none⟩,
        ⟨none, .store 2 (.t 4) (.t 28), none⟩])
      .ret)))) }
theorem f77P : prepF C Try.f77 = some f77A := by kernel_rfl

/-- slices.Clip[[]int,int] -/
def f78A : AFunc :=
{ nargs := 1, res := [.t 2], body :=
  (.seq
   (.reg none [⟨(some 2), .mv (.c .nils), none⟩])
   (.seq
    (.reg none [⟨(some 3), .mv (.t 0), none⟩,
      ⟨(some 4), .mv (.t 0), none⟩,
      ⟨(some 5), .len (.t 4), none⟩,
      ⟨(some 6), .mv (.t 0), none⟩,
      ⟨(some 7), .len (.t 6), none⟩,
      ⟨(some 8), .slice 1 (.t 3) none (some (.t 5)) (some (.t 7)), none⟩,
      ⟨(some 2), .mv (.t 8), none⟩])
    .ret)) }
theorem f78P : prepF C Try.f78 = some f78A := by kernel_rfl

/-- slices.Clone[[]int,int] -/
def f82A : AFunc :=
{ nargs := 1, res := [.t 2], body :=
  (.seq
   (.reg none [⟨(some 2), .mv (.c .nils), none⟩])
   (.seq
    (.seq
     (.reg none [⟨(some 3), .mv (.t 0), none⟩,
       ⟨(some 4), .seq false (.t 3) (.c .nils), none⟩])
     (.cond (.t 4)
      (.seq
       (.reg none [⟨(some 2), .mv (.c .nils), none⟩])
       .ret)
      .skip))
    (.seq
     (.reg none [⟨(some 5), .bslice [(.int .i64 0)] 0 1 [], none⟩,
       ⟨(some 6), .mv (.t 0), none⟩,
       ⟨(some 7), .append 1 8 (.t 5) (.t 6), none⟩,
       ⟨(some 2), .mv (.t 7), none⟩])
     .ret))) }
theorem f82P : prepF C Try.f82 = some f82A := by kernel_rfl

/-- (congou/arrays.Array).missing -/
def f84A : AFunc :=
{ nargs := 2, res := [.t 4], body :=
  (.seq
   (.reg none [⟨(some 2), .box (.t 0), none⟩,
     ⟨(some 4), .mv (.c .nils), none⟩])
   (.seq
    (.reg none [⟨(some 5), .alloc [.nils], none⟩])
    (.seq
     (.seq
      (.reg none [⟨(some 8), .load (some 2) (.t 2), none⟩,
        ⟨(some 9), .mv (.t 1), none⟩,
        ⟨(some 10), .call 87 [(.t 8), (.t 9)], none⟩])
      (.block 0
       (.rangeF 20 (.t 10) [11, 12]
        (.seq
         (.reg none [⟨(some 6), .mv (.t 11), none⟩])
         (.reg none [⟨(some 7), .mv (.t 12), none⟩]))
        (.block 1
         (.seq
          (.reg none [⟨(some 13), .mv (.t 7), none⟩,
            ⟨(some 14), .bin .eql (.t 13) (.c (.int .i64 0)), none⟩])
          (.cond (.t 14)
           (.reg none [⟨(some 15), .load none (.t 5), none⟩,
             ⟨(some 16), .mv (.t 6), none⟩,
             ⟨(some 17), .bslice [.nils] 1 1 [(0, (.t 16))], none⟩,
             ⟨(some 18), .append 1 24 (.t 15) (.t 17), none⟩,
             ⟨none, .store 1 (.t 5) (.t 18), none⟩])
           .skip))))))
     (.seq
      (.reg none [⟨(some 19), .load none (.t 5), none⟩,
        ⟨(some 4), .mv (.t 19), none⟩])
      .ret)))) }
theorem f84P : prepF C Try.f84 = some f84A := by kernel_rfl

/-- (congou/arrays.Array).strong -/
def f86A : AFunc :=
{ nargs := 3, res := [.t 6], body :=
  (.seq
   (.reg none [⟨(some 3), .box (.t 0), none⟩,
     ⟨(some 6), .mv (.c (.b false)), none⟩])
   (.seq
    (.reg none [⟨(some 7), .load (some 2) (.t 3), none⟩,
      ⟨(some 8), .call 74 [(.t 7)], none⟩,
      ⟨(some 9), .mv (.t 8), none⟩,
      ⟨(some 10), .mv (.t 1), some (9, true)⟩,
      ⟨(some 11), .bin .geq (.t 10) (.c (.int .i64 1)), some (9, true)⟩,
      ⟨(some 12), .pick (.t 9) (.t 11) (.c (.b false)), none⟩,
      ⟨(some 13), .mv (.t 12), none⟩,
      ⟨(some 14), .mv (.t 1), some (13, true)⟩,
      ⟨(some 15), .mv (.t 2), some (13, true)⟩,
      ⟨(some 16), .bin .leq (.t 14) (.t 15), some (13, true)⟩,
      ⟨(some 17), .pick (.t 13) (.t 16) (.c (.b false)), none⟩,
      ⟨(some 18), .mv (.t 17), none⟩,
      ⟨(some 19), .mv (.t 1), some (18, true)⟩,
      ⟨(some 20), .load (some 2) (.t 3), some (18, true)⟩,
      ⟨(some 21), .call 75 [(.t 20)], some (18, true)⟩,
      ⟨(some 22), .bin .leq (.t 19) (.t 21), some (18, true)⟩,
      ⟨(some 23), .pick (.t 18) (.t 22) (.c (.b false)), none⟩,
      ⟨(some 6), .mv (.t 23), none⟩])
    .ret)) }
theorem f86P : prepF C Try.f86 = some f86A := by kernel_rfl

/-- (congou/arrays.Array).all -/
def f87A : AFunc :=
{ nargs := 2, res := [.t 4], body :=
  (.seq
   (.reg none [⟨(some 2), .box (.t 0), none⟩,
     ⟨(some 3), .box (.t 1), none⟩,
     ⟨(some 4), .mv (.c .nilf), none⟩])
   (.seq
    (.reg none [⟨(some 5), .mkfn 102 [] [(.t 3), (.t 2)], none⟩,
      ⟨(some 4), .mv (.t 5), none⟩])
    .ret)) }
theorem f87P : prepF C Try.f87 = some f87A := by kernel_rfl

/-- (congou/arrays.Array).index -/
def f88A : AFunc :=
{ nargs := 2, res := [.c 4 none], body :=
  (.seq
   (.reg none [⟨(some 2), .box (.t 0), none⟩,
     ⟨(some 4), .alloc [(.int .i64 0)], none⟩])
   (.seq
    (.reg none [⟨(some 5), .alloc [(.int .i64 0)], none⟩,
      ⟨none, .store 1 (.t 5) (.c (.int .i64 (-1))), none⟩])
    (.seq
     (.seq
      (.reg none [⟨(some 8), .load (some 2) (.t 2), none⟩,
        ⟨(some 9), .mv (.t 1), none⟩,
        ⟨(some 10), .call 87 [(.t 8), (.t 9)], none⟩])
      (.block 0
       (.rangeF 20 (.t 10) [11, 12]
        (.reg none [⟨(some 7), .mv (.t 12), none⟩])
        (.block 1
         (.seq
          (.seq
           (.reg none [⟨(some 13), .load none (.t 5), none⟩,
             ⟨(some 14), .bin .lss (.t 13) (.c (.int .i64 0)), none⟩])
           (.cond (.t 14)
            (.reg none [⟨(some 15), .mv (.t 7), none⟩,
              ⟨none, .store 1 (.t 5) (.t 15), none⟩])
            .skip))
          (.seq
           (.reg none [⟨(some 16), .mv (.t 7), none⟩,
             ⟨(some 17), .load none (.t 5), none⟩,
             ⟨(some 18), .bin .neq (.t 16) (.t 17), none⟩])
           (.cond (.t 18)
            (.seq
             (.reg none [⟨none, .store 1 (.t 4) (.c (.int .i64 0)), none⟩])
             .ret)
            .skip)))))))
     (.seq
      (.reg none [⟨(some 19), .load none (.t 5), none⟩,
        ⟨none, .store 1 (.t 4) (.t 19), none⟩])
      .ret)))) }
theorem f88P : prepF C Try.f88 = some f88A := by kernel_rfl

/-- slices.IndexFunc[[][]int,[]int] -/
def f94A : AFunc :=
{ nargs := 2, res := [.t 4], body :=
  (.seq
   (.reg none [⟨(some 4), .mv (.c (.int .i64 0)), none⟩])
   (.seq
    (.seq
     (.reg none [⟨(some 6), .mv (.t 0), none⟩,
       ⟨(some 7), .len (.t 6), none⟩,
       ⟨(some 8), .mv (.c (.int .i64 0)), none⟩])
     (.block 0
      (.loop
       (.seq
        (.reg none [⟨(some 9), .bin .lss (.t 8) (.t 7), none⟩])
        (.seq
         (.cond (.t 9)
          .skip
          (.exit 0))
         (.seq
          (.block 1
           (.seq
            (.reg none [⟨(some 10), .mv (.t 8), none⟩,
              ⟨(some 5), .mv (.t 10), none⟩])
            (.seq
             (.reg none [⟨(some 11), .mv (.t 1), none⟩,
               ⟨(some 12), .mv (.t 0), none⟩,
               ⟨(some 13), .mv (.t 5), none⟩,
               ⟨(some 14), .iaddr 1 (.t 12) (.t 13), none⟩,
               ⟨(some 15), .load none (.t 14), none⟩,
               ⟨(some 16), .callv (.t 11) [(.t 15)], none⟩])
             (.cond (.t 16)
              (.seq
               (.reg none [⟨(some 17), .mv (.t 5), none⟩,
                 ⟨(some 4), .mv (.t 17), none⟩])
               .ret)
              .skip))))
          (.reg none [⟨(some 18), .bin .add (.t 8) (.c (.int .i64 1)), none⟩,
            ⟨(some 8), .mv (.t 18), none⟩])))))))
    (.seq
     (.reg none [⟨(some 4), .mv (.c (.int .i64 (-1))), none⟩])
     .ret))) }
theorem f94P : prepF C Try.f94 = some f94A := by kernel_rfl

/-- congou/arrays.tuples$1 -/
def f96A : AFunc :=
{ nargs := 4, res := [], body :=
  (.seq
   (.reg none [⟨(some 4), .box (.t 0), none⟩])
   (.seq
    (.reg none [⟨(some 5), .alloc [.nilf], none⟩])
    (.seq
     (.reg none [⟨(some 6), .mkfn 97 [] [(.t 1), (.t 4), (.t 2), (.t 3), (.t 5)], none⟩,
       ⟨none, .store 1 (.t 5) (.t 6), none⟩])
     (.reg none [⟨(some 7), .load none (.t 5), none⟩,
       ⟨(some 8), .callv (.t 7) [(.c .nils)], none⟩])))) }
theorem f96P : prepF C Try.f96 = some f96A := by kernel_rfl

/-- congou/arrays.tuples$1$1 -/
def f97A : AFunc :=
{ nargs := 6, res := [.t 7], body :=
  (.seq
   (.reg none [⟨(some 7), .mv (.c (.b false)), none⟩])
   (.seq
    (.seq
     (.reg none [⟨(some 10), .mv (.t 0), none⟩,
       ⟨(some 11), .len (.t 10), none⟩,
       ⟨(some 12), .load none (.t 1), none⟩,
       ⟨(some 13), .bin .eql (.t 11) (.t 12), none⟩])
     (.cond (.t 13)
      (.seq
       (.reg none [⟨(some 14), .load none (.t 2), none⟩,
         ⟨(some 15), .mv (.t 0), none⟩,
         ⟨(some 16), .callv (.t 14) [(.t 15)], none⟩,
         ⟨(some 7), .mv (.t 16), none⟩])
       .ret)
      .skip))
    (.seq
     (.reg none [⟨(some 8), .mv (.c (.int .i64 0)), none⟩])
     (.seq
      (.seq
       (.reg none [⟨(some 17), .load none (.t 3), none⟩,
         ⟨(some 18), .mv (.t 17), none⟩,
         ⟨(some 19), .mv (.t 0), some (18, true)⟩,
         ⟨(some 20), .len (.t 19), some (18, true)⟩,
         ⟨(some 21), .bin .gtr (.t 20) (.c (.int .i64 0)), some (18, true)⟩,
         ⟨(some 22), .pick (.t 18) (.t 21) (.c (.b false)), none⟩])
       (.cond (.t 22)
        (.reg none [⟨(some 23), .mv (.t 0), none⟩,
          ⟨(some 24), .mv (.t 0), none⟩,
          ⟨(some 25), .len (.t 24), none⟩,
          ⟨(some 26), .bin .sub (.t 25) (.c (.int .i64 1)), none⟩,
          ⟨(some 27), .iaddr 1 (.t 23) (.t 26), none⟩,
          ⟨(some 28), .load none (.t 27), none⟩,
          ⟨(some 29), .bin .add (.t 28) (.c (.int .i64 1)), none⟩,
          ⟨(some 8), .mv (.t 29), none⟩])
        .skip))
      (.seq
       (.seq
        (.reg none [⟨(some 30), .mv (.t 8), none⟩,
          ⟨(some 9), .mv (.t 30), none⟩])
        (.block 0
         (.loop
          (.seq
           (.seq
            (.reg none [⟨(some 31), .mv (.t 9), none⟩,
              ⟨(some 32), .load none (.t 4), none⟩,
              ⟨(some 33), .bin .lss (.t 31) (.t 32), none⟩])
            (.cond (.t 33)
             .skip
             (.exit 0)))
           (.seq
            (.block 1
             (.seq
              (.reg (some [(0, 9)]) [⟨(some 36), .load none (.t 5), none⟩,
                ⟨(some 37), .mv (.t 0), none⟩,
                ⟨(some 38), .mv (.t 0), none⟩,
                ⟨(some 39), .len (.t 38), none⟩,
                ⟨(some 40), .mv (.t 0), none⟩,
                ⟨(some 41), .len (.t 40), none⟩,
                ⟨(some 42), .slice 1 (.t 37) none (some (.t 39)) (some (.t 41)), none⟩,
                ⟨(some 43), .mv (.t 9), none⟩,
                ⟨(some 44), .bslice [(.int .i64 0)] 1 1 [(0, (.t 43))], none⟩,
                ⟨(some 45), .append 1 8 (.t 42) (.t 44), none⟩,
                ⟨(some 46), .callv (.t 36) [(.t 45)], none⟩,
                ⟨(some 47), .un .not (.t 46), none⟩])
              (.cond (.t 47)
               (.seq
                (.reg none [⟨(some 7), .mv (.c (.b false)), none⟩])
                .ret)
               .skip)))
            (.reg none [⟨(some 34), .mv (.t 9), none⟩,
              ⟨(some 35), .bin .add (.t 34) (.c (.int .i64 1)), none⟩,
              ⟨(some 9), .mv (.t 35), none⟩]))))))
       (.seq
        (.reg none [⟨(some 7), .mv (.c (.b true)), none⟩])
        .ret)))))) }
theorem f97P : prepF C Try.f97 = some f97A := by kernel_rfl

/-- slices.Min[[]int,int] -/
def f98A : AFunc :=
{ nargs := 1, res := [.t 2], body :=
  (.seq
   (.reg none [⟨(some 2), .mv (.c (.int .i64 0)), none⟩])
   (.seq
    (.seq
     (.reg none [⟨(some 5), .mv (.t 0), none⟩,
       ⟨(some 6), .len (.t 5), none⟩,
       ⟨(some 7), .bin .lss (.t 6) (.c (.int .i64 1)), none⟩])
     (.cond (.t 7)
      (.reg none [⟨(some 8), .bad, none⟩,
        ⟨none, .bad, none⟩])
      .skip))
    (.seq
     (.reg none [⟨(some 9), .mv (.t 0), none⟩,
       ⟨(some 10), .iaddr 1 (.t 9) (.c (.int .i64 0)), none⟩,
       ⟨(some 11), .load none (.t 10), none⟩,
       ⟨(some 3), .mv (.t 11), none⟩])
     (.seq
      (.seq
       (.reg none [⟨(some 4), .mv (.c (.int .i64 1)), none⟩])
       (.block 0
        (.loop
         (.seq
          (.seq
           (.reg none [⟨(some 12), .mv (.t 4), none⟩,
             ⟨(some 13), .mv (.t 0), none⟩,
             ⟨(some 14), .len (.t 13), none⟩,
             ⟨(some 15), .bin .lss (.t 12) (.t 14), none⟩])
           (.cond (.t 15)
            .skip
            (.exit 0)))
          (.seq
           (.block 1
            (.reg none [⟨(some 18), .mv (.t 3), none⟩,
              ⟨(some 19), .mv (.t 0), none⟩,
              ⟨(some 20), .mv (.t 4), none⟩,
              ⟨(some 21), .iaddr 1 (.t 19) (.t 20), none⟩,
              ⟨(some 22), .load none (.t 21), none⟩,
              ⟨(some 23), .mn [(.t 18), (.t 22)], none⟩,
              ⟨(some 3), .mv (.t 23), none⟩]))
           (.reg none [⟨(some 16), .mv (.t 4), none⟩,
             ⟨(some 17), .bin .add (.t 16) (.c (.int .i64 1)), none⟩,
             ⟨(some 4), .mv (.t 17), none⟩]))))))
      (.seq
       (.reg none [⟨(some 24), .mv (.t 3), none⟩,
         ⟨(some 2), .mv (.t 24), none⟩])
       .ret))))) }
theorem f98P : prepF C Try.f98 = some f98A := by kernel_rfl

/-- slices.Max[[]int,int] -/
def f99A : AFunc :=
{ nargs := 1, res := [.t 2], body :=
  (.seq
   (.reg none [⟨(some 2), .mv (.c (.int .i64 0)), none⟩])
   (.seq
    (.seq
     (.reg none [⟨(some 5), .mv (.t 0), none⟩,
       ⟨(some 6), .len (.t 5), none⟩,
       ⟨(some 7), .bin .lss (.t 6) (.c (.int .i64 1)), none⟩])
     (.cond (.t 7)
      (.reg none [⟨(some 8), .bad, none⟩,
        ⟨none, .bad, none⟩])
      .skip))
    (.seq
     (.reg none [⟨(some 9), .mv (.t 0), none⟩,
       ⟨(some 10), .iaddr 1 (.t 9) (.c (.int .i64 0)), none⟩,
       ⟨(some 11), .load none (.t 10), none⟩,
       ⟨(some 3), .mv (.t 11), none⟩])
     (.seq
      (.seq
       (.reg none [⟨(some 4), .mv (.c (.int .i64 1)), none⟩])
       (.block 0
        (.loop
         (.seq
          (.seq
           (.reg none [⟨(some 12), .mv (.t 4), none⟩,
             ⟨(some 13), .mv (.t 0), none⟩,
             ⟨(some 14), .len (.t 13), none⟩,
             ⟨(some 15), .bin .lss (.t 12) (.t 14), none⟩])
           (.cond (.t 15)
            .skip
            (.exit 0)))
          (.seq
           (.block 1
            (.reg none [⟨(some 18), .mv (.t 3), none⟩,
              ⟨(some 19), .mv (.t 0), none⟩,
              ⟨(some 20), .mv (.t 4), none⟩,
              ⟨(some 21), .iaddr 1 (.t 19) (.t 20), none⟩,
              ⟨(some 22), .load none (.t 21), none⟩,
              ⟨(some 23), .mx [(.t 18), (.t 22)], none⟩,
              ⟨(some 3), .mv (.t 23), none⟩]))
           (.reg none [⟨(some 16), .mv (.t 4), none⟩,
             ⟨(some 17), .bin .add (.t 16) (.c (.int .i64 1)), none⟩,
             ⟨(some 4), .mv (.t 17), none⟩]))))))
      (.seq
       (.reg none [⟨(some 24), .mv (.t 3), none⟩,
         ⟨(some 2), .mv (.t 24), none⟩])
       .ret))))) }
theorem f99P : prepF C Try.f99 = some f99A := by kernel_rfl

/-- slices.Grow[[][]int,[]int] -/
def f100A : AFunc :=
{ nargs := 2, res := [.t 4], body :=
  (.seq
   (.reg none [⟨(some 4), .mv (.c .nils), none⟩])
   (.seq
    (.seq
     (.reg none [⟨(some 5), .mv (.t 1), none⟩,
       ⟨(some 6), .bin .lss (.t 5) (.c (.int .i64 0)), none⟩])
     (.cond (.t 6)
      (.reg none [⟨(some 7), .bad, none⟩,
        ⟨none, .bad, none⟩])
      .skip))
    (.seq
     (.seq
      (.reg none [⟨(some 8), .mv (.t 1), none⟩,
        ⟨(some 9), .mv (.t 0), none⟩,
        ⟨(some 10), .cap (.t 9), none⟩,
        ⟨(some 11), .mv (.t 0), none⟩,
        ⟨(some 12), .len (.t 11), none⟩,
        ⟨(some 13), .bin .sub (.t 10) (.t 12), none⟩,
        ⟨(some 14), .bin .sub (.t 8) (.t 13), none⟩,
        ⟨(some 1), .mv (.t 14), none⟩])
      (.seq
       (.reg none [⟨(some 15), .mv (.t 1), none⟩,
         ⟨(some 16), .bin .gtr (.t 15) (.c (.int .i64 0)), none⟩])
       (.cond (.t 16)
        (.reg none [⟨(some 17), .mv (.t 0), none⟩,
          ⟨(some 18), .mv (.t 0), none⟩,
          ⟨(some 19), .cap (.t 18), none⟩,
          ⟨(some 20), .slice 1 (.t 17) none (some (.t 19)) none, none⟩,
          ⟨(some 21), .mv (.t 1), none⟩,
          ⟨(some 22), .appendz 1 24 [.nils] (.t 20) (.t 21), none⟩,
          ⟨(some 23), .mv (.t 0), none⟩,
          ⟨(some 24), .len (.t 23), none⟩,
          ⟨(some 25), .slice 1 (.t 22) none (some (.t 24)) none, none⟩,
          ⟨(some 0), .mv (.t 25), none⟩])
        .skip)))
     (.seq
      (.reg none [⟨(some 26), .mv (.t 0), none⟩,
        ⟨(some 4), .mv (.t 26), none⟩])
      .ret)))) }
theorem f100P : prepF C Try.f100 = some f100A := by kernel_rfl

/-- congou/arrays.comes -/
def f101A : AFunc :=
{ nargs := 3, res := [.t 6], body :=
  (.seq
   (.reg none [⟨(some 6), .mv (.c (.b false)), none⟩])
   (.seq
    (.seq
     (.reg none [⟨(some 9), .mv (.t 1), none⟩,
       ⟨(some 10), .len (.t 9), none⟩,
       ⟨(some 11), .mv (.c (.int .i64 0)), none⟩])
     (.block 0
      (.loop
       (.seq
        (.reg none [⟨(some 12), .bin .lss (.t 11) (.t 10), none⟩])
        (.seq
         (.cond (.t 12)
          .skip
          (.exit 0))
         (.seq
          (.block 1
           (.seq
            (.reg none [⟨(some 13), .mv (.t 11), none⟩,
              ⟨(some 14), .iaddr 1 (.t 9) (.t 11), none⟩,
              ⟨(some 15), .load none (.t 14), none⟩,
              ⟨(some 7), .mv (.t 13), none⟩,
              ⟨(some 8), .mv (.t 15), none⟩])
            (.seq
             (.reg (some []) [⟨(some 16), .mv (.t 0), none⟩,
               ⟨(some 17), .mv (.t 8), none⟩,
               ⟨(some 18), .iaddr 1 (.t 16) (.t 17), none⟩,
               ⟨(some 19), .load none (.t 18), none⟩,
               ⟨(some 20), .mv (.t 2), none⟩,
               ⟨(some 21), .mv (.t 7), none⟩,
               ⟨(some 22), .iaddr 1 (.t 20) (.t 21), none⟩,
               ⟨(some 23), .load none (.t 22), none⟩,
               ⟨(some 24), .bin .neq (.t 19) (.t 23), none⟩])
             (.cond (.t 24)
              (.seq
               (.reg none [⟨(some 6), .mv (.c (.b false)), none⟩])
               .ret)
              .skip))))
          (.reg none [⟨(some 25), .bin .add (.t 11) (.c (.int .i64 1)), none⟩,
            ⟨(some 11), .mv (.t 25), none⟩])))))))
    (.seq
     (.reg none [⟨(some 6), .mv (.c (.b true)), none⟩])
     .ret))) }
theorem f101P : prepF C Try.f101 = some f101A := by kernel_rfl

/-- (congou/arrays.Array).all$1 -/
def f102A : AFunc :=
{ nargs := 3, res := [], body :=
  (.seq
   (.reg none [⟨(some 3), .box (.t 0), none⟩])
   (.seq
    (.reg (some []) [⟨(some 6), .load none (.t 1), none⟩,
      ⟨(some 7), .load (some 2) (.t 2), none⟩,
      ⟨(some 8), .call 75 [(.t 7)], none⟩,
      ⟨(some 9), .call 72 [(.t 6), (.t 8), (.c (.b true))], none⟩])
    (.block 0
     (.rangeF 27 (.t 9) [10]
      (.reg none [⟨(some 4), .alloc [.nils], none⟩,
        ⟨none, .store 1 (.t 4) (.t 10), none⟩])
      (.block 1
       (.seq
        (.reg none [⟨(some 11), .load none (.t 1), none⟩,
          ⟨(some 12), .faddr 0 (.t 2), none⟩,
          ⟨(some 13), .load none (.t 12), none⟩,
          ⟨(some 14), .call 72 [(.t 11), (.t 13), (.c (.b false))], none⟩])
        (.block 2
         (.rangeF 27 (.t 14) [15]
          (.reg none [⟨(some 5), .mv (.t 15), none⟩])
          (.block 3
           (.seq
            (.reg (some []) [⟨(some 16), .load none (.t 3), none⟩,
              ⟨(some 17), .load none (.t 4), none⟩,
              ⟨(some 18), .mv (.t 5), none⟩,
              ⟨(some 19), .bslice [.nils] 2 1 [(0, (.t 17)), (1, (.t 18))], none⟩,
              ⟨(some 20), .call 103 [(.t 19)], none⟩,
              ⟨(some 21), .load (some 2) (.t 2), none⟩,
              ⟨(some 22), .load none (.t 4), none⟩,
              ⟨(some 23), .mv (.t 5), none⟩,
              ⟨(some 24), .call 104 [(.t 21), (.t 22), (.t 23)], none⟩,
              ⟨(some 25), .callv (.t 16) [(.t 20), (.t 24)], none⟩,
              ⟨(some 26), .un .not (.t 25), none⟩])
            (.cond (.t 26)
             .ret
             .skip))))))))))) }
theorem f102P : prepF C Try.f102 = some f102A := by kernel_rfl

/-- slices.Concat[[]int,int] -/
def f103A : AFunc :=
{ nargs := 1, res := [.t 2], body :=
  (.seq
   (.reg none [⟨(some 2), .mv (.c .nils), none⟩])
   (.seq
    (.reg none [⟨(some 3), .mv (.c (.int .i64 0)), none⟩])
    (.seq
     (.seq
      (.reg none [⟨(some 9), .mv (.t 0), none⟩,
        ⟨(some 10), .len (.t 9), none⟩,
        ⟨(some 11), .mv (.c (.int .i64 0)), none⟩])
      (.block 0
       (.loop
        (.seq
         (.reg none [⟨(some 12), .bin .lss (.t 11) (.t 10), none⟩])
         (.seq
          (.cond (.t 12)
           .skip
           (.exit 0))
          (.seq
           (.block 1
            (.seq
             (.reg none [⟨(some 13), .iaddr 1 (.t 9) (.t 11), none⟩,
               ⟨(some 14), .load none (.t 13), none⟩,
               ⟨(some 5), .mv (.t 14), none⟩])
             (.seq
              (.reg none [⟨(some 15), .mv (.t 3), none⟩,
                ⟨(some 16), .mv (.t 5), none⟩,
                ⟨(some 17), .len (.t 16), none⟩,
                ⟨(some 18), .bin .add (.t 15) (.t 17), none⟩,
                ⟨(some 3), .mv (.t 18), none⟩])
              (.seq
               (.reg none [⟨(some 19), .mv (.t 3), none⟩,
                 ⟨(some 20), .bin .lss (.t 19) (.c (.int .i64 0)), none⟩])
               (.cond (.t 20)
                (.reg none [⟨(some 21), .bad, none⟩,
                  ⟨none, .bad, none⟩])
                .skip)))))
           (.reg none [⟨(some 22), .bin .add (.t 11) (.c (.int .i64 1)), none⟩,
             ⟨(some 11), .mv (.t 22), none⟩])))))))
     (.seq
      (.reg none [⟨(some 23), .mv (.t 3), none⟩,
        ⟨(some 24), .call 106 [(.c .nils), (.t 23)], none⟩,
        ⟨(some 6), .mv (.t 24), none⟩])
      (.seq
       (.seq
        (.reg none [⟨(some 25), .mv (.t 0), none⟩,
          ⟨(some 26), .len (.t 25), none⟩,
          ⟨(some 27), .mv (.c (.int .i64 0)), none⟩])
        (.block 2
         (.loop
          (.seq
           (.reg none [⟨(some 28), .bin .lss (.t 27) (.t 26), none⟩])
           (.seq
            (.cond (.t 28)
             .skip
             (.exit 2))
            (.seq
             (.block 3
              (.seq
               (.reg none [⟨(some 29), .iaddr 1 (.t 25) (.t 27), none⟩,
                 ⟨(some 30), .load none (.t 29), none⟩,
                 ⟨(some 8), .mv (.t 30), none⟩])
               (.reg none [⟨(some 31), .mv (.t 6), none⟩,
                 ⟨(some 32), .mv (.t 8), none⟩,
                 ⟨(some 33), .append 1 8 (.t 31) (.t 32), none⟩,
                 ⟨(some 6), .mv (.t 33), none⟩])))
             (.reg none [⟨(some 34), .bin .add (.t 27) (.c (.int .i64 1)), none⟩,
               ⟨(some 27), .mv (.t 34), none⟩])))))))
       (.seq
        (.reg none [⟨(some 35), .mv (.t 6), none⟩,
          ⟨(some 2), .mv (.t 35), none⟩])
        .ret)))))) }
theorem f103P : prepF C Try.f103 = some f103A := by kernel_rfl

/-- (congou/arrays.Array).often -/
def f104A : AFunc :=
{ nargs := 3, res := [.t 6], body :=
  (.seq
   (.reg none [⟨(some 3), .box (.t 0), none⟩,
     ⟨(some 6), .mv (.c (.int .i64 0)), none⟩])
   (.seq
    (.reg none [⟨(some 7), .mv (.c (.int .i64 0)), none⟩])
    (.seq
     (.seq
      (.reg none [⟨(some 10), .faddr 1 (.t 3), none⟩,
        ⟨(some 11), .load none (.t 10), none⟩,
        ⟨(some 12), .len (.t 11), none⟩,
        ⟨(some 13), .mv (.c (.int .i64 0)), none⟩])
      (.block 0
       (.loop
        (.seq
         (.reg none [⟨(some 14), .bin .lss (.t 13) (.t 12), none⟩])
         (.seq
          (.cond (.t 14)
           .skip
           (.exit 0))
          (.seq
           (.block 1
            (.seq
             (.reg none [⟨(some 15), .iaddr 1 (.t 11) (.t 13), none⟩,
               ⟨(some 16), .load none (.t 15), none⟩,
               ⟨(some 9), .mv (.t 16), none⟩])
             (.seq
              (.reg none [⟨(some 17), .mv (.t 9), none⟩,
                ⟨(some 18), .mv (.t 1), none⟩,
                ⟨(some 19), .mv (.t 2), none⟩,
                ⟨(some 20), .call 101 [(.t 17), (.t 18), (.t 19)], none⟩])
              (.cond (.t 20)
               (.reg none [⟨(some 21), .mv (.t 7), none⟩,
                 ⟨(some 22), .bin .add (.t 21) (.c (.int .i64 1)), none⟩,
                 ⟨(some 7), .mv (.t 22), none⟩])
               .skip))))
           (.reg none [⟨(some 23), .bin .add (.t 13) (.c (.int .i64 1)), none⟩,
             ⟨(some 13), .mv (.t 23), none⟩])))))))
     (.seq
      (.reg none [⟨(some 24), .mv (.t 7), none⟩,
        ⟨(some 6), .mv (.t 24), none⟩])
      .ret)))) }
theorem f104P : prepF C Try.f104 = some f104A := by kernel_rfl

/-- slices.Grow[[]int,int] -/
def f106A : AFunc :=
{ nargs := 2, res := [.t 4], body :=
  (.seq
   (.reg none [⟨(some 4), .mv (.c .nils), none⟩])
   (.seq
    (.seq
     (.reg none [⟨(some 5), .mv (.t 1), none⟩,
       ⟨(some 6), .bin .lss (.t 5) (.c (.int .i64 0)), none⟩])
     (.cond (.t 6)
      (.reg none [⟨(some 7), .bad, none⟩,
        ⟨none, .bad, none⟩])
      .skip))
    (.seq
     (.seq
      (.reg none [⟨(some 8), .mv (.t 1), none⟩,
        ⟨(some 9), .mv (.t 0), none⟩,
        ⟨(some 10), .cap (.t 9), none⟩,
        ⟨(some 11), .mv (.t 0), none⟩,
        ⟨(some 12), .len (.t 11), none⟩,
        ⟨(some 13), .bin .sub (.t 10) (.t 12), none⟩,
        ⟨(some 14), .bin .sub (.t 8) (.t 13), none⟩,
        ⟨(some 1), .mv (.t 14), none⟩])
      (.seq
       (.reg none [⟨(some 15), .mv (.t 1), none⟩,
         ⟨(some 16), .bin .gtr (.t 15) (.c (.int .i64 0)), none⟩])
       (.cond (.t 16)
        (.reg none [⟨(some 17), .mv (.t 0), none⟩,
          ⟨(some 18), .mv (.t 0), none⟩,
          ⟨(some 19), .cap (.t 18), none⟩,
          ⟨(some 20), .slice 1 (.t 17) none (some (.t 19)) none, none⟩,
          ⟨(some 21), .mv (.t 1), none⟩,
          ⟨(some 22), .appendz 1 8 [(.int .i64 0)] (.t 20) (.t 21), none⟩,
          ⟨(some 23), .mv (.t 0), none⟩,
          ⟨(some 24), .len (.t 23), none⟩,
          ⟨(some 25), .slice 1 (.t 22) none (some (.t 24)) none, none⟩,
          ⟨(some 0), .mv (.t 25), none⟩])
        .skip)))
     (.seq
      (.reg none [⟨(some 26), .mv (.t 0), none⟩,
        ⟨(some 4), .mv (.t 26), none⟩])
      .ret)))) }
theorem f106P : prepF C Try.f106 = some f106A := by kernel_rfl

end Go.Proofs.Ytalaadcbpjnglaa
