/- The abstract forms of the functions that are needed, each checked against the translation. No condition. -/
import Derived.Test.YtflekaacffdakaaAm1
import Derived.Test.YtflekaacffdakaaProg
namespace Go.Proofs.Ytflekaacffdakaa
open Go Go.AM Go.Proofs

/-- the seat's program; the types whose comparison is taken; the functions that may write to what is older -/
def kd : Nat → Kd := fun f => if [68, 80, 100].contains f then .wrt else if [23].contains f then .closed else .ro
noncomputable def C : Cfg := { P := Try.prog, eqT := fun t => if t == 37 then some 2 else if t == 88 then some 3 else none, kd := kd, keyT := fun t => if t == 94 then some 9 else none }
/-- congou/congoulaw06.CountsLed -/
def f18A : AFunc :=
{ nargs := 7, res := [.t 14], body :=
  (.seq
   (.reg none [⟨(some 14), .mv (.c (.b false)), none⟩])
   (.seq
    (.reg none [⟨(some 30), .mv (.t 0), none⟩,
      ⟨(some 31), .call 20 [(.t 30)], none⟩,
      ⟨(some 32), .call 42 [(.t 31)], none⟩,
      ⟨(some 29), .mv (.t 32), none⟩,
      ⟨(some 33), .extr (.t 29) 0, none⟩,
      ⟨(some 34), .extr (.t 29) 1, none⟩,
      ⟨(some 15), .mv (.t 33), none⟩,
      ⟨(some 16), .mv (.t 34), none⟩])
    (.seq
     (.seq
      (.reg none [⟨(some 35), .mv (.t 16), none⟩,
        ⟨(some 36), .bin .neq (.t 35) (.c (.int .i64 0)), none⟩,
        ⟨(some 37), .mv (.t 36), none⟩,
        ⟨(some 38), .mv (.t 0), some (37, false)⟩,
        ⟨(some 39), .call 22 [(.t 38)], some (37, false)⟩,
        ⟨(some 40), .un .not (.t 39), some (37, false)⟩,
        ⟨(some 41), .pick (.t 37) (.c (.b true)) (.t 40), none⟩,
        ⟨(some 42), .mv (.t 41), none⟩,
        ⟨(some 43), .mv (.t 15), some (42, false)⟩,
        ⟨(some 44), .len (.t 43), some (42, false)⟩,
        ⟨(some 45), .bin .eql (.t 44) (.c (.int .i64 0)), some (42, false)⟩,
        ⟨(some 46), .pick (.t 42) (.c (.b true)) (.t 45), none⟩])
      (.cond (.t 46)
       (.seq
        (.reg none [⟨(some 47), .mv (.t 16), none⟩,
          ⟨(some 48), .bin .eql (.t 47) (.c (.int .i64 2)), none⟩,
          ⟨(some 49), .mv (.t 48), none⟩,
          ⟨(some 50), .call 23 [], some (49, true)⟩,
          ⟨(some 51), .pick (.t 49) (.t 50) (.c (.b false)), none⟩,
          ⟨(some 14), .mv (.t 51), none⟩])
        .ret)
       .skip))
     (.seq
      (.reg (some []) [⟨(some 52), .mv (.t 15), none⟩,
        ⟨(some 53), .mv (.t 1), none⟩,
        ⟨(some 54), .conv .u64 (.t 53), none⟩,
        ⟨(some 55), .mv (.t 15), none⟩,
        ⟨(some 56), .len (.t 55), none⟩,
        ⟨(some 57), .conv .u64 (.t 56), none⟩,
        ⟨(some 58), .bin .rem (.t 54) (.t 57), none⟩,
        ⟨(some 59), .conv .i64 (.t 58), none⟩,
        ⟨(some 60), .iaddr 1 (.t 52) (.t 59), none⟩,
        ⟨(some 61), .load none (.t 60), none⟩,
        ⟨(some 62), .mv (.t 15), none⟩,
        ⟨(some 63), .mv (.t 2), none⟩,
        ⟨(some 64), .conv .u64 (.t 63), none⟩,
        ⟨(some 65), .mv (.t 15), none⟩,
        ⟨(some 66), .len (.t 65), none⟩,
        ⟨(some 67), .conv .u64 (.t 66), none⟩,
        ⟨(some 68), .bin .rem (.t 64) (.t 67), none⟩,
        ⟨(some 69), .conv .i64 (.t 68), none⟩,
        ⟨(some 70), .iaddr 1 (.t 62) (.t 69), none⟩,
        ⟨(some 71), .load none (.t 70), none⟩,
        ⟨(some 17), .mv (.t 61), none⟩,
        ⟨(some 18), .mv (.t 71), none⟩])
      (.seq
       (.reg none [⟨(some 73), .mv (.t 17), none⟩,
         ⟨(some 74), .call 20 [(.t 73)], none⟩,
         ⟨(some 75), .mv (.t 18), none⟩,
         ⟨(some 76), .call 20 [(.t 75)], none⟩,
         ⟨(some 77), .call 60 [(.t 74), (.t 76)], none⟩,
         ⟨(some 72), .mv (.t 77), none⟩,
         ⟨(some 78), .extr (.t 72) 0, none⟩,
         ⟨(some 79), .extr (.t 72) 1, none⟩,
         ⟨(some 19), .mv (.t 78), none⟩,
         ⟨(some 20), .mv (.t 79), none⟩])
       (.seq
        (.reg none [⟨(some 81), .mv (.t 18), none⟩,
          ⟨(some 82), .call 20 [(.t 81)], none⟩,
          ⟨(some 83), .mv (.t 17), none⟩,
          ⟨(some 84), .call 20 [(.t 83)], none⟩,
          ⟨(some 85), .call 60 [(.t 82), (.t 84)], none⟩,
          ⟨(some 80), .mv (.t 85), none⟩,
          ⟨(some 86), .extr (.t 80) 0, none⟩,
          ⟨(some 87), .extr (.t 80) 1, none⟩,
          ⟨(some 21), .mv (.t 86), none⟩,
          ⟨(some 22), .mv (.t 87), none⟩])
        (.seq
         (.seq
          (.reg none [⟨(some 88), .mv (.t 20), none⟩,
            ⟨(some 89), .bin .neq (.t 88) (.c (.int .i64 0)), none⟩,
            ⟨(some 90), .mv (.t 89), none⟩,
            ⟨(some 91), .mv (.t 22), some (90, false)⟩,
            ⟨(some 92), .bin .neq (.t 91) (.c (.int .i64 0)), some (90, false)⟩,
            ⟨(some 93), .pick (.t 90) (.c (.b true)) (.t 92), none⟩,
            ⟨(some 94), .mv (.t 93), none⟩,
            ⟨(some 95), .mv (.t 19), some (94, false)⟩,
            ⟨(some 96), .len (.t 95), some (94, false)⟩,
            ⟨(some 97), .mv (.t 21), some (94, false)⟩,
            ⟨(some 98), .len (.t 97), some (94, false)⟩,
            ⟨(some 99), .bin .neq (.t 96) (.t 98), some (94, false)⟩,
            ⟨(some 100), .pick (.t 94) (.c (.b true)) (.t 99), none⟩,
            ⟨(some 101), .mv (.t 100), none⟩,
            ⟨(some 102), .mv (.t 19), some (101, false)⟩,
            ⟨(some 103), .len (.t 102), some (101, false)⟩,
            ⟨(some 104), .bin .gtr (.t 103) (.c (.int .i64 40)), some (101, false)⟩,
            ⟨(some 105), .pick (.t 101) (.c (.b true)) (.t 104), none⟩])
          (.cond (.t 105)
           (.seq
            (.reg none [⟨(some 14), .mv (.c (.b false)), none⟩])
            .ret)
           .skip))
         (.seq
          (.seq
           (.reg none [⟨(some 106), .mv (.t 19), none⟩,
             ⟨(some 107), .len (.t 106), none⟩,
             ⟨(some 108), .mv (.c (.int .i64 0)), none⟩])
           (.block 0
            (.loop
             (.seq
              (.reg none [⟨(some 109), .bin .lss (.t 108) (.t 107), none⟩])
              (.seq
               (.cond (.t 109)
                .skip
                (.exit 0))
               (.seq
                (.block 1
                 (.seq
                  (.reg none [⟨(some 110), .iaddr 1 (.t 106) (.t 108), none⟩,
                    ⟨(some 111), .load none (.t 110), none⟩,
                    ⟨(some 24), .alloc [.nils], none⟩,
                    ⟨none, .store 1 (.t 24) (.t 111), none⟩])
                  (.seq
                   (.reg none [⟨(some 112), .mv (.t 15), none⟩,
                     ⟨(some 113), .mkfn 67 [] [(.t 24)], none⟩,
                     ⟨(some 114), .call 66 [(.t 112), (.t 113)], none⟩,
                     ⟨(some 115), .un .not (.t 114), none⟩])
                   (.cond (.t 115)
                    (.seq
                     (.reg none [⟨(some 14), .mv (.c (.b false)), none⟩])
                     .ret)
                    .skip))))
                (.reg none [⟨(some 116), .bin .add (.t 108) (.c (.int .i64 1)), none⟩,
                  ⟨(some 108), .mv (.t 116), none⟩])))))))
          (.seq
           (.reg none [⟨(some 118), .mv (.t 17), none⟩,
             ⟨(some 119), .call 20 [(.t 118)], none⟩,
             ⟨(some 120), .mv (.t 18), none⟩,
             ⟨(some 121), .call 20 [(.t 120)], none⟩,
             ⟨(some 122), .mv (.t 19), none⟩,
             ⟨(some 123), .call 62 [(.t 122)], none⟩,
             ⟨(some 124), .call 61 [(.t 119), (.t 121), (.t 123)], none⟩,
             ⟨(some 117), .mv (.t 124), none⟩,
             ⟨(some 125), .extr (.t 117) 0, none⟩,
             ⟨(some 126), .extr (.t 117) 1, none⟩,
             ⟨(some 25), .mv (.t 125), none⟩,
             ⟨(some 20), .mv (.t 126), none⟩])
           (.seq
            (.reg none [⟨(some 127), .mv (.t 19), none⟩,
              ⟨(some 128), .call 68 [(.t 127)], none⟩])
            (.seq
             (.reg none [⟨(some 130), .mv (.t 18), none⟩,
               ⟨(some 131), .call 20 [(.t 130)], none⟩,
               ⟨(some 132), .mv (.t 17), none⟩,
               ⟨(some 133), .call 20 [(.t 132)], none⟩,
               ⟨(some 134), .mv (.t 19), none⟩,
               ⟨(some 135), .call 62 [(.t 134)], none⟩,
               ⟨(some 136), .call 61 [(.t 131), (.t 133), (.t 135)], none⟩,
               ⟨(some 129), .mv (.t 136), none⟩,
               ⟨(some 137), .extr (.t 129) 0, none⟩,
               ⟨(some 138), .extr (.t 129) 1, none⟩,
               ⟨(some 26), .mv (.t 137), none⟩,
               ⟨(some 22), .mv (.t 138), none⟩])
             (.seq
              (.seq
               (.reg none [⟨(some 139), .mv (.t 25), none⟩,
                 ⟨(some 140), .un .not (.t 139), none⟩,
                 ⟨(some 141), .mv (.t 140), none⟩,
                 ⟨(some 142), .mv (.t 26), some (141, false)⟩,
                 ⟨(some 143), .un .not (.t 142), some (141, false)⟩,
                 ⟨(some 144), .pick (.t 141) (.c (.b true)) (.t 143), none⟩,
                 ⟨(some 145), .mv (.t 144), none⟩,
                 ⟨(some 146), .mv (.t 20), some (145, false)⟩,
                 ⟨(some 147), .bin .neq (.t 146) (.c (.int .i64 0)), some (145, false)⟩,
                 ⟨(some 148), .pick (.t 145) (.c (.b true)) (.t 147), none⟩,
                 ⟨(some 149), .mv (.t 148), none⟩,
                 ⟨(some 150), .mv (.t 22), some (149, false)⟩,
                 ⟨(some 151), .bin .neq (.t 150) (.c (.int .i64 0)), some (149, false)⟩,
                 ⟨(some 152), .pick (.t 149) (.c (.b true)) (.t 151), none⟩])
               (.cond (.t 152)
                (.seq
                 (.reg none [⟨(some 14), .mv (.c (.b false)), none⟩])
                 .ret)
                .skip))
              (.seq
               (.reg none [⟨(some 154), .mv (.t 17), none⟩,
                 ⟨(some 155), .call 20 [(.t 154)], none⟩,
                 ⟨(some 156), .mv (.t 3), none⟩,
                 ⟨(some 157), .mv (.t 4), none⟩,
                 ⟨(some 158), .mv (.t 5), none⟩,
                 ⟨(some 159), .mv (.t 6), none⟩,
                 ⟨(some 160), .call 32 [(.t 155), (.t 156), (.t 157), (.t 158), (.t 159)], none⟩,
                 ⟨(some 153), .mv (.t 160), none⟩,
                 ⟨(some 161), .extr (.t 153) 0, none⟩,
                 ⟨(some 162), .extr (.t 153) 1, none⟩,
                 ⟨(some 27), .alloc [.nils], none⟩,
                 ⟨none, .store 1 (.t 27) (.t 161), none⟩,
                 ⟨(some 16), .mv (.t 162), none⟩])
               (.seq
                (.seq
                 (.reg none [⟨(some 163), .mv (.t 16), none⟩,
                   ⟨(some 164), .bin .neq (.t 163) (.c (.int .i64 0)), none⟩])
                 (.cond (.t 164)
                  (.seq
                   (.reg none [⟨(some 165), .mv (.t 16), none⟩,
                     ⟨(some 166), .bin .eql (.t 165) (.c (.int .i64 4)), none⟩,
                     ⟨(some 167), .mv (.t 166), none⟩,
                     ⟨(some 168), .mv (.t 16), some (167, false)⟩,
                     ⟨(some 169), .bin .eql (.t 168) (.c (.int .i64 2)), some (167, false)⟩,
                     ⟨(some 170), .pick (.t 167) (.c (.b true)) (.t 169), none⟩,
                     ⟨(some 171), .mv (.t 170), none⟩,
                     ⟨(some 172), .call 23 [], some (171, true)⟩,
                     ⟨(some 173), .pick (.t 171) (.t 172) (.c (.b false)), none⟩,
                     ⟨(some 14), .mv (.t 173), none⟩])
                   .ret)
                  .skip))
                (.seq
                 (.reg none [⟨(some 175), .load none (.t 27), none⟩,
                   ⟨(some 176), .call 20 [(.t 175)], none⟩,
                   ⟨(some 177), .mv (.t 3), none⟩,
                   ⟨(some 178), .mv (.t 4), none⟩,
                   ⟨(some 179), .mv (.t 6), none⟩,
                   ⟨(some 180), .mv (.t 5), none⟩,
                   ⟨(some 181), .call 32 [(.t 176), (.t 177), (.t 178), (.t 179), (.t 180)], none⟩,
                   ⟨(some 174), .mv (.t 181), none⟩,
                   ⟨(some 182), .extr (.t 174) 0, none⟩,
                   ⟨(some 183), .extr (.t 174) 1, none⟩,
                   ⟨(some 28), .mv (.t 182), none⟩,
                   ⟨(some 16), .mv (.t 183), none⟩])
                 (.seq
                  (.reg none [⟨(some 184), .mv (.t 16), none⟩,
                    ⟨(some 185), .bin .eql (.t 184) (.c (.int .i64 0)), none⟩,
                    ⟨(some 186), .mv (.t 185), none⟩,
                    ⟨(some 187), .mv (.t 28), some (186, true)⟩,
                    ⟨(some 188), .mv (.t 17), some (186, true)⟩,
                    ⟨(some 189), .call 26 [(.t 187), (.t 188)], some (186, true)⟩,
                    ⟨(some 190), .pick (.t 186) (.t 189) (.c (.b false)), none⟩,
                    ⟨(some 191), .mv (.t 190), none⟩,
                    ⟨(some 192), .mv (.t 15), some (191, true)⟩,
                    ⟨(some 193), .mkfn 69 [] [(.t 27)], some (191, true)⟩,
                    ⟨(some 194), .call 66 [(.t 192), (.t 193)], some (191, true)⟩,
                    ⟨(some 195), .pick (.t 191) (.t 194) (.c (.b false)), none⟩,
                    ⟨(some 196), .mv (.t 195), none⟩,
                    ⟨(some 197), .call 23 [], some (196, true)⟩,
                    ⟨(some 198), .pick (.t 196) (.t 197) (.c (.b false)), none⟩,
                    ⟨(some 14), .mv (.t 198), none⟩])
                  .ret)))))))))))))))) }
theorem f18P : prepF C Try.f18 = some f18A := by kernel_rfl

/-- congou/counts.Sums -/
def f19A : AFunc :=
{ nargs := 1, res := [.t 2, .t 3, .t 4], body :=
  (.seq
   (.reg none [⟨(some 2), .mv (.c .nils), none⟩,
     ⟨(some 3), .mv (.c .nils), none⟩,
     ⟨(some 4), .mv (.c (.int .i64 0)), none⟩])
   (.seq
    (.seq
     (.reg none [⟨(some 5), .mv (.t 0), none⟩,
       ⟨(some 6), .call 70 [(.t 5)], none⟩,
       ⟨(some 7), .un .not (.t 6), none⟩])
     (.cond (.t 7)
      (.seq
       (.reg none [⟨(some 2), .mv (.c .nils), none⟩,
         ⟨(some 3), .mv (.c .nils), none⟩,
         ⟨(some 4), .mv (.c (.int .i64 2)), none⟩])
       .ret)
      .skip))
    (.seq
     (.reg none [⟨(some 9), .mv (.t 0), none⟩,
       ⟨(some 10), .call 71 [(.t 9)], none⟩,
       ⟨(some 8), .mv (.t 10), none⟩,
       ⟨(some 11), .extr (.t 8) 0, none⟩,
       ⟨(some 12), .extr (.t 8) 1, none⟩,
       ⟨(some 2), .mv (.t 11), none⟩,
       ⟨(some 3), .mv (.t 12), none⟩])
     (.seq
      (.reg none [⟨(some 13), .mv (.t 2), none⟩,
        ⟨(some 14), .mv (.t 3), none⟩,
        ⟨(some 2), .mv (.t 13), none⟩,
        ⟨(some 3), .mv (.t 14), none⟩,
        ⟨(some 4), .mv (.c (.int .i64 0)), none⟩])
      .ret)))) }
theorem f19P : prepF C Try.f19 = some f19A := by kernel_rfl

/-- congou/congoulaw06.table -/
def f20A : AFunc :=
{ nargs := 1, res := [.t 2], body :=
  (.seq
   (.reg none [⟨(some 2), .mv (.c .nils), none⟩])
   (.seq
    (.reg none [⟨(some 3), .mv (.c .nils), none⟩])
    (.seq
     (.seq
      (.reg none [⟨(some 6), .mv (.t 0), none⟩,
        ⟨(some 7), .len (.t 6), none⟩,
        ⟨(some 8), .mv (.c (.int .i64 0)), none⟩])
      (.block 0
       (.loop
        (.seq
         (.reg none [⟨(some 9), .bin .lss (.t 8) (.t 7), none⟩])
         (.seq
          (.cond (.t 9)
           .skip
           (.exit 0))
          (.seq
           (.block 1
            (.seq
             (.reg none [⟨(some 10), .mv (.t 8), none⟩,
               ⟨(some 11), .iaddr 1 (.t 6) (.t 8), none⟩,
               ⟨(some 12), .load none (.t 11), none⟩,
               ⟨(some 4), .mv (.t 10), none⟩,
               ⟨(some 5), .mv (.t 12), none⟩])
             (.seq
              (.reg none [⟨(some 13), .mv (.t 4), none⟩,
                ⟨(some 14), .bin .lss (.t 13) (.c (.int .i64 6)), none⟩])
              (.cond (.t 14)
               (.reg none [⟨(some 15), .mv (.t 3), none⟩,
                 ⟨(some 16), .mv (.t 5), none⟩,
                 ⟨(some 17), .call 39 [(.t 16)], none⟩,
                 ⟨(some 18), .bslice [.nils] 1 1 [(0, (.t 17))], none⟩,
                 ⟨(some 19), .append 1 24 (.t 15) (.t 18), none⟩,
                 ⟨(some 3), .mv (.t 19), none⟩])
               .skip))))
           (.reg none [⟨(some 20), .bin .add (.t 8) (.c (.int .i64 1)), none⟩,
             ⟨(some 8), .mv (.t 20), none⟩])))))))
     (.seq
      (.reg none [⟨(some 21), .mv (.t 3), none⟩,
        ⟨(some 2), .mv (.t 21), none⟩])
      .ret)))) }
theorem f20P : prepF C Try.f20 = some f20A := by kernel_rfl

/-- congou/congouref06.Table -/
def f22A : AFunc :=
{ nargs := 1, res := [.t 2], body :=
  (.seq
   (.reg none [⟨(some 2), .mv (.c (.b false)), none⟩])
   (.seq
    (.reg none [⟨(some 3), .mv (.c (.int .i64 0)), none⟩])
    (.seq
     (.seq
      (.reg none [⟨(some 8), .mv (.t 0), none⟩,
        ⟨(some 9), .len (.t 8), none⟩,
        ⟨(some 10), .mv (.c (.int .i64 0)), none⟩])
      (.block 0
       (.loop
        (.seq
         (.reg none [⟨(some 11), .bin .lss (.t 10) (.t 9), none⟩])
         (.seq
          (.cond (.t 11)
           .skip
           (.exit 0))
          (.seq
           (.block 1
            (.seq
             (.reg none [⟨(some 12), .iaddr 1 (.t 8) (.t 10), none⟩,
               ⟨(some 13), .load none (.t 12), none⟩,
               ⟨(some 5), .mv (.t 13), none⟩])
             (.seq
              (.seq
               (.reg none [⟨(some 14), .mv (.t 5), none⟩,
                 ⟨(some 15), .len (.t 14), none⟩,
                 ⟨(some 16), .mv (.t 0), none⟩,
                 ⟨(some 17), .iaddr 1 (.t 16) (.c (.int .i64 0)), none⟩,
                 ⟨(some 18), .load none (.t 17), none⟩,
                 ⟨(some 19), .len (.t 18), none⟩,
                 ⟨(some 20), .bin .neq (.t 15) (.t 19), none⟩,
                 ⟨(some 21), .mv (.t 20), none⟩,
                 ⟨(some 22), .mv (.t 5), some (21, false)⟩,
                 ⟨(some 23), .len (.t 22), some (21, false)⟩,
                 ⟨(some 24), .bin .lss (.t 23) (.c (.int .i64 1)), some (21, false)⟩,
                 ⟨(some 25), .pick (.t 21) (.c (.b true)) (.t 24), none⟩,
                 ⟨(some 26), .mv (.t 25), none⟩,
                 ⟨(some 27), .mv (.t 5), some (26, false)⟩,
                 ⟨(some 28), .len (.t 27), some (26, false)⟩,
                 ⟨(some 29), .bin .gtr (.t 28) (.c (.int .i64 3)), some (26, false)⟩,
                 ⟨(some 30), .pick (.t 26) (.c (.b true)) (.t 29), none⟩])
               (.cond (.t 30)
                (.seq
                 (.reg none [⟨(some 2), .mv (.c (.b false)), none⟩])
                 .ret)
                .skip))
              (.seq
               (.reg none [⟨(some 31), .mv (.t 5), none⟩,
                 ⟨(some 32), .len (.t 31), none⟩,
                 ⟨(some 33), .mv (.c (.int .i64 0)), none⟩])
               (.block 2
                (.loop
                 (.seq
                  (.reg none [⟨(some 34), .bin .lss (.t 33) (.t 32), none⟩])
                  (.seq
                   (.cond (.t 34)
                    .skip
                    (.exit 2))
                   (.seq
                    (.block 3
                     (.seq
                      (.reg none [⟨(some 35), .iaddr 1 (.t 31) (.t 33), none⟩,
                        ⟨(some 36), .load none (.t 35), none⟩,
                        ⟨(some 7), .mv (.t 36), none⟩])
                      (.seq
                       (.seq
                        (.reg none [⟨(some 37), .mv (.t 7), none⟩,
                          ⟨(some 38), .bin .lss (.t 37) (.c (.int .i64 0)), none⟩,
                          ⟨(some 39), .mv (.t 38), none⟩,
                          ⟨(some 40), .mv (.t 7), some (39, false)⟩,
                          ⟨(some 41), .bin .gtr (.t 40) (.c (.int .i64 16)), some (39, false)⟩,
                          ⟨(some 42), .pick (.t 39) (.c (.b true)) (.t 41), none⟩])
                        (.cond (.t 42)
                         (.seq
                          (.reg none [⟨(some 2), .mv (.c (.b false)), none⟩])
                          .ret)
                         .skip))
                       (.reg none [⟨(some 43), .mv (.t 3), none⟩,
                         ⟨(some 44), .mv (.t 7), none⟩,
                         ⟨(some 45), .bin .add (.t 43) (.t 44), none⟩,
                         ⟨(some 3), .mv (.t 45), none⟩]))))
                    (.reg none [⟨(some 46), .bin .add (.t 33) (.c (.int .i64 1)), none⟩,
                      ⟨(some 33), .mv (.t 46), none⟩]))))))))))
           (.reg none [⟨(some 47), .bin .add (.t 10) (.c (.int .i64 1)), none⟩,
             ⟨(some 10), .mv (.t 47), none⟩])))))))
     (.seq
      (.reg none [⟨(some 48), .mv (.t 0), none⟩,
        ⟨(some 49), .len (.t 48), none⟩,
        ⟨(some 50), .bin .geq (.t 49) (.c (.int .i64 1)), none⟩,
        ⟨(some 51), .mv (.t 50), none⟩,
        ⟨(some 52), .mv (.t 0), some (51, true)⟩,
        ⟨(some 53), .len (.t 52), some (51, true)⟩,
        ⟨(some 54), .bin .leq (.t 53) (.c (.int .i64 3)), some (51, true)⟩,
        ⟨(some 55), .pick (.t 51) (.t 54) (.c (.b false)), none⟩,
        ⟨(some 56), .mv (.t 55), none⟩,
        ⟨(some 57), .mv (.t 3), some (56, true)⟩,
        ⟨(some 58), .bin .leq (.t 57) (.c (.int .i64 16)), some (56, true)⟩,
        ⟨(some 59), .pick (.t 56) (.t 58) (.c (.b false)), none⟩,
        ⟨(some 2), .mv (.t 59), none⟩])
      .ret)))) }
theorem f22P : prepF C Try.f22 = some f22A := by kernel_rfl

/-- congou/congoulaw06.awake -/
def f23A : AFunc :=
{ nargs := 0, res := [.t 0], body :=
  (.seq
   (.reg none [⟨(some 0), .mv (.c (.b false)), none⟩])
   (.seq
    (.reg none [⟨(some 5), .bslice [(.int .i64 0)] 2 1 [(0, (.c (.int .i64 1))), (1, (.c (.int .i64 2)))], none⟩,
      ⟨(some 6), .bslice [(.int .i64 0)] 2 1 [(0, (.c (.int .i64 3))), (1, (.c (.int .i64 4)))], none⟩,
      ⟨(some 7), .bslice [.nils] 2 1 [(0, (.t 5)), (1, (.t 6))], none⟩,
      ⟨(some 8), .call 19 [(.t 7)], none⟩,
      ⟨(some 4), .mv (.t 8), none⟩,
      ⟨(some 9), .extr (.t 4) 0, none⟩,
      ⟨(some 10), .extr (.t 4) 1, none⟩,
      ⟨(some 11), .extr (.t 4) 2, none⟩,
      ⟨(some 1), .mv (.t 9), none⟩,
      ⟨(some 2), .mv (.t 10), none⟩,
      ⟨(some 3), .mv (.t 11), none⟩])
    (.seq
     (.reg none [⟨(some 12), .mv (.t 3), none⟩,
       ⟨(some 13), .bin .eql (.t 12) (.c (.int .i64 0)), none⟩,
       ⟨(some 14), .mv (.t 13), none⟩,
       ⟨(some 15), .mv (.t 1), some (14, true)⟩,
       ⟨(some 16), .bslice [(.int .i64 0)] 2 1 [(0, (.c (.int .i64 3))), (1, (.c (.int .i64 7)))], some (14, true)⟩,
       ⟨(some 17), .call 25 [(.t 15), (.t 16)], some (14, true)⟩,
       ⟨(some 18), .pick (.t 14) (.t 17) (.c (.b false)), none⟩,
       ⟨(some 19), .mv (.t 18), none⟩,
       ⟨(some 20), .mv (.t 2), some (19, true)⟩,
       ⟨(some 21), .bslice [(.int .i64 0)] 2 1 [(0, (.c (.int .i64 4))), (1, (.c (.int .i64 6)))], some (19, true)⟩,
       ⟨(some 22), .call 25 [(.t 20), (.t 21)], some (19, true)⟩,
       ⟨(some 23), .pick (.t 19) (.t 22) (.c (.b false)), none⟩,
       ⟨(some 0), .mv (.t 23), none⟩])
     .ret))) }
theorem f23P : prepF C Try.f23 = some f23A := by kernel_rfl

/-- slices.Equal[[]int,int] -/
def f25A : AFunc :=
{ nargs := 2, res := [.t 4], body :=
  (.seq
   (.reg none [⟨(some 4), .mv (.c (.b false)), none⟩])
   (.seq
    (.seq
     (.reg none [⟨(some 6), .mv (.t 0), none⟩,
       ⟨(some 7), .len (.t 6), none⟩,
       ⟨(some 8), .mv (.t 1), none⟩,
       ⟨(some 9), .len (.t 8), none⟩,
       ⟨(some 10), .bin .neq (.t 7) (.t 9), none⟩])
     (.cond (.t 10)
      (.seq
       (.reg none [⟨(some 4), .mv (.c (.b false)), none⟩])
       .ret)
      .skip))
    (.seq
     (.seq
      (.reg none [⟨(some 11), .mv (.t 0), none⟩,
        ⟨(some 12), .len (.t 11), none⟩,
        ⟨(some 13), .mv (.c (.int .i64 0)), none⟩])
      (.block 0
       (.loop
        (.seq
         (.reg none [⟨(some 14), .bin .lss (.t 13) (.t 12), none⟩])
         (.seq
          (.cond (.t 14)
           .skip
           (.exit 0))
          (.seq
           (.block 1
            (.seq
             (.reg none [⟨(some 15), .mv (.t 13), none⟩,
               ⟨(some 5), .mv (.t 15), none⟩])
             (.seq
              (.reg (some []) [⟨(some 16), .mv (.t 0), none⟩,
                ⟨(some 17), .mv (.t 5), none⟩,
                ⟨(some 18), .iaddr 1 (.t 16) (.t 17), none⟩,
                ⟨(some 19), .load none (.t 18), none⟩,
                ⟨(some 20), .mv (.t 1), none⟩,
                ⟨(some 21), .mv (.t 5), none⟩,
                ⟨(some 22), .iaddr 1 (.t 20) (.t 21), none⟩,
                ⟨(some 23), .load none (.t 22), none⟩,
                ⟨(some 24), .bin .neq (.t 19) (.t 23), none⟩])
              (.cond (.t 24)
               (.seq
                (.reg none [⟨(some 4), .mv (.c (.b false)), none⟩])
                .ret)
               .skip))))
           (.reg none [⟨(some 25), .bin .add (.t 13) (.c (.int .i64 1)), none⟩,
             ⟨(some 13), .mv (.t 25), none⟩])))))))
     (.seq
      (.reg none [⟨(some 4), .mv (.c (.b true)), none⟩])
      .ret)))) }
theorem f25P : prepF C Try.f25 = some f25A := by kernel_rfl

/-- congou/congouref06.Same -/
def f26A : AFunc :=
{ nargs := 2, res := [.t 4], body :=
  (.seq
   (.reg none [⟨(some 4), .mv (.c (.b false)), none⟩])
   (.seq
    (.seq
     (.reg none [⟨(some 9), .mv (.t 0), none⟩,
       ⟨(some 10), .len (.t 9), none⟩,
       ⟨(some 11), .mv (.t 1), none⟩,
       ⟨(some 12), .len (.t 11), none⟩,
       ⟨(some 13), .bin .neq (.t 10) (.t 12), none⟩])
     (.cond (.t 13)
      (.seq
       (.reg none [⟨(some 4), .mv (.c (.b false)), none⟩])
       .ret)
      .skip))
    (.seq
     (.seq
      (.reg none [⟨(some 14), .mv (.t 0), none⟩,
        ⟨(some 15), .len (.t 14), none⟩,
        ⟨(some 16), .mv (.c (.int .i64 0)), none⟩])
      (.block 0
       (.loop
        (.seq
         (.reg none [⟨(some 17), .bin .lss (.t 16) (.t 15), none⟩])
         (.seq
          (.cond (.t 17)
           .skip
           (.exit 0))
          (.seq
           (.block 1
            (.seq
             (.reg none [⟨(some 18), .mv (.t 16), none⟩,
               ⟨(some 19), .iaddr 1 (.t 14) (.t 16), none⟩,
               ⟨(some 20), .load none (.t 19), none⟩,
               ⟨(some 5), .mv (.t 18), none⟩,
               ⟨(some 6), .mv (.t 20), none⟩])
             (.seq
              (.seq
               (.reg none [⟨(some 21), .mv (.t 6), none⟩,
                 ⟨(some 22), .len (.t 21), none⟩,
                 ⟨(some 23), .mv (.t 1), none⟩,
                 ⟨(some 24), .mv (.t 5), none⟩,
                 ⟨(some 25), .iaddr 1 (.t 23) (.t 24), none⟩,
                 ⟨(some 26), .load none (.t 25), none⟩,
                 ⟨(some 27), .len (.t 26), none⟩,
                 ⟨(some 28), .bin .neq (.t 22) (.t 27), none⟩])
               (.cond (.t 28)
                (.seq
                 (.reg none [⟨(some 4), .mv (.c (.b false)), none⟩])
                 .ret)
                .skip))
              (.seq
               (.reg none [⟨(some 29), .mv (.t 6), none⟩,
                 ⟨(some 30), .len (.t 29), none⟩,
                 ⟨(some 31), .mv (.c (.int .i64 0)), none⟩])
               (.block 2
                (.loop
                 (.seq
                  (.reg none [⟨(some 32), .bin .lss (.t 31) (.t 30), none⟩])
                  (.seq
                   (.cond (.t 32)
                    .skip
                    (.exit 2))
                   (.seq
                    (.block 3
                     (.seq
                      (.reg none [⟨(some 33), .mv (.t 31), none⟩,
                        ⟨(some 34), .iaddr 1 (.t 29) (.t 31), none⟩,
                        ⟨(some 35), .load none (.t 34), none⟩,
                        ⟨(some 7), .mv (.t 33), none⟩,
                        ⟨(some 8), .mv (.t 35), none⟩])
                      (.seq
                       (.reg none [⟨(some 36), .mv (.t 8), none⟩,
                         ⟨(some 37), .mv (.t 1), none⟩,
                         ⟨(some 38), .mv (.t 5), none⟩,
                         ⟨(some 39), .iaddr 1 (.t 37) (.t 38), none⟩,
                         ⟨(some 40), .load none (.t 39), none⟩,
                         ⟨(some 41), .mv (.t 7), none⟩,
                         ⟨(some 42), .iaddr 1 (.t 40) (.t 41), none⟩,
                         ⟨(some 43), .load none (.t 42), none⟩,
                         ⟨(some 44), .bin .neq (.t 36) (.t 43), none⟩])
                       (.cond (.t 44)
                        (.seq
                         (.reg none [⟨(some 4), .mv (.c (.b false)), none⟩])
                         .ret)
                        .skip))))
                    (.reg none [⟨(some 45), .bin .add (.t 31) (.c (.int .i64 1)), none⟩,
                      ⟨(some 31), .mv (.t 45), none⟩]))))))))))
           (.reg none [⟨(some 46), .bin .add (.t 16) (.c (.int .i64 1)), none⟩,
             ⟨(some 16), .mv (.t 46), none⟩])))))))
     (.seq
      (.reg none [⟨(some 4), .mv (.c (.b true)), none⟩])
      .ret)))) }
theorem f26P : prepF C Try.f26 = some f26A := by kernel_rfl

/-- congou/counts.Swap -/
def f32A : AFunc :=
{ nargs := 5, res := [.t 10, .t 11], body :=
  (.seq
   (.reg none [⟨(some 10), .mv (.c .nils), none⟩,
     ⟨(some 11), .mv (.c (.int .i64 0)), none⟩])
   (.seq
    (.seq
     (.reg none [⟨(some 14), .mv (.t 0), none⟩,
       ⟨(some 15), .call 70 [(.t 14)], none⟩,
       ⟨(some 16), .un .not (.t 15), none⟩,
       ⟨(some 17), .mv (.t 16), none⟩,
       ⟨(some 18), .mv (.t 1), some (17, false)⟩,
       ⟨(some 19), .mv (.t 2), some (17, false)⟩,
       ⟨(some 20), .mv (.t 3), some (17, false)⟩,
       ⟨(some 21), .mv (.t 4), some (17, false)⟩,
       ⟨(some 22), .mn [(.t 18), (.t 19), (.t 20), (.t 21)], some (17, false)⟩,
       ⟨(some 23), .bin .lss (.t 22) (.c (.int .i64 0)), some (17, false)⟩,
       ⟨(some 24), .pick (.t 17) (.c (.b true)) (.t 23), none⟩,
       ⟨(some 25), .mv (.t 24), none⟩,
       ⟨(some 26), .mv (.t 1), some (25, false)⟩,
       ⟨(some 27), .mv (.t 2), some (25, false)⟩,
       ⟨(some 28), .mx [(.t 26), (.t 27)], some (25, false)⟩,
       ⟨(some 29), .mv (.t 0), some (25, false)⟩,
       ⟨(some 30), .len (.t 29), some (25, false)⟩,
       ⟨(some 31), .bin .geq (.t 28) (.t 30), some (25, false)⟩,
       ⟨(some 32), .pick (.t 25) (.c (.b true)) (.t 31), none⟩,
       ⟨(some 33), .mv (.t 32), none⟩,
       ⟨(some 34), .mv (.t 3), some (33, false)⟩,
       ⟨(some 35), .mv (.t 4), some (33, false)⟩,
       ⟨(some 36), .mx [(.t 34), (.t 35)], some (33, false)⟩,
       ⟨(some 37), .mv (.t 0), some (33, false)⟩,
       ⟨(some 38), .iaddr 1 (.t 37) (.c (.int .i64 0)), some (33, false)⟩,
       ⟨(some 39), .load none (.t 38), some (33, false)⟩,
       ⟨(some 40), .len (.t 39), some (33, false)⟩,
       ⟨(some 41), .bin .geq (.t 36) (.t 40), some (33, false)⟩,
       ⟨(some 42), .pick (.t 33) (.c (.b true)) (.t 41), none⟩,
       ⟨(some 43), .mv (.t 42), none⟩,
       ⟨(some 44), .mv (.t 1), some (43, false)⟩,
       ⟨(some 45), .mv (.t 2), some (43, false)⟩,
       ⟨(some 46), .bin .eql (.t 44) (.t 45), some (43, false)⟩,
       ⟨(some 47), .pick (.t 43) (.c (.b true)) (.t 46), none⟩,
       ⟨(some 48), .mv (.t 47), none⟩,
       ⟨(some 49), .mv (.t 3), some (48, false)⟩,
       ⟨(some 50), .mv (.t 4), some (48, false)⟩,
       ⟨(some 51), .bin .eql (.t 49) (.t 50), some (48, false)⟩,
       ⟨(some 52), .pick (.t 48) (.c (.b true)) (.t 51), none⟩])
     (.cond (.t 52)
      (.seq
       (.reg none [⟨(some 10), .mv (.c .nils), none⟩,
         ⟨(some 11), .mv (.c (.int .i64 2)), none⟩])
       .ret)
      .skip))
    (.seq
     (.reg none [⟨(some 54), .mv (.t 0), none⟩,
       ⟨(some 55), .mv (.t 1), none⟩,
       ⟨(some 56), .mv (.t 2), none⟩,
       ⟨(some 57), .mv (.t 3), none⟩,
       ⟨(some 58), .mv (.t 4), none⟩,
       ⟨(some 59), .call 74 [(.t 54), (.t 55), (.t 56), (.t 57), (.t 58)], none⟩,
       ⟨(some 53), .mv (.t 59), none⟩,
       ⟨(some 60), .extr (.t 53) 0, none⟩,
       ⟨(some 61), .extr (.t 53) 1, none⟩,
       ⟨(some 12), .mv (.t 60), none⟩,
       ⟨(some 13), .mv (.t 61), none⟩])
     (.seq
      (.seq
       (.reg none [⟨(some 62), .mv (.t 13), none⟩,
         ⟨(some 63), .un .not (.t 62), none⟩])
       (.cond (.t 63)
        (.seq
         (.reg none [⟨(some 10), .mv (.c .nils), none⟩,
           ⟨(some 11), .mv (.c (.int .i64 4)), none⟩])
         .ret)
        .skip))
      (.seq
       (.reg none [⟨(some 64), .mv (.t 12), none⟩,
         ⟨(some 10), .mv (.t 64), none⟩,
         ⟨(some 11), .mv (.c (.int .i64 0)), none⟩])
       .ret))))) }
theorem f32P : prepF C Try.f32 = some f32A := by kernel_rfl

/-- congou/congoulaw06.list -/
def f39A : AFunc :=
{ nargs := 1, res := [.t 2], body :=
  (.seq
   (.reg none [⟨(some 2), .mv (.c .nils), none⟩])
   (.seq
    (.reg none [⟨(some 3), .mv (.t 0), none⟩,
      ⟨(some 4), .mv (.t 0), none⟩,
      ⟨(some 5), .len (.t 4), none⟩,
      ⟨(some 6), .mn [(.t 5), (.c (.int .i64 6))], none⟩,
      ⟨(some 7), .slice 1 (.t 3) none (some (.t 6)) none, none⟩,
      ⟨(some 8), .call 56 [(.t 7)], none⟩,
      ⟨(some 2), .mv (.t 8), none⟩])
    .ret)) }
theorem f39P : prepF C Try.f39 = some f39A := by kernel_rfl

/-- congou/counts.Family -/
def f42A : AFunc :=
{ nargs := 1, res := [.t 2, .t 3], body :=
  (.seq
   (.reg none [⟨(some 2), .mv (.c .nils), none⟩,
     ⟨(some 3), .mv (.c (.int .i64 0)), none⟩])
   (.seq
    (.seq
     (.reg none [⟨(some 6), .mv (.t 0), none⟩,
       ⟨(some 7), .call 70 [(.t 6)], none⟩,
       ⟨(some 8), .un .not (.t 7), none⟩])
     (.cond (.t 8)
      (.seq
       (.reg none [⟨(some 2), .mv (.c .nils), none⟩,
         ⟨(some 3), .mv (.c (.int .i64 2)), none⟩])
       .ret)
      .skip))
    (.seq
     (.reg none [⟨(some 4), .alloc [.nils], none⟩])
     (.seq
      (.seq
       (.reg none [⟨(some 9), .mv (.t 0), none⟩,
         ⟨(some 10), .call 82 [(.t 9)], none⟩,
         ⟨(some 11), .mkfn 80 [(.t 10)] [], none⟩])
       (.block 0
        (.rangeF 18 (.t 11) [12]
         (.reg none [⟨(some 5), .mv (.t 12), none⟩])
         (.block 1
          (.reg none [⟨(some 13), .load none (.t 4), none⟩,
            ⟨(some 14), .mv (.t 5), none⟩,
            ⟨(some 15), .bslice [.nils] 1 1 [(0, (.t 14))], none⟩,
            ⟨(some 16), .append 1 24 (.t 13) (.t 15), none⟩,
            ⟨none, .store 1 (.t 4) (.t 16), none⟩])))))
      (.seq
       (.reg none [⟨(some 17), .load none (.t 4), none⟩,
         ⟨(some 2), .mv (.t 17), none⟩,
         ⟨(some 3), .mv (.c (.int .i64 0)), none⟩])
       .ret))))) }
theorem f42P : prepF C Try.f42 = some f42A := by kernel_rfl

/-- slices.Clone[[]int,int] -/
def f56A : AFunc :=
{ nargs := 1, res := [.t 2], body :=
  (.seq
   (.reg none [⟨(some 2), .mv (.c .nils), none⟩])
   (.seq
    (.seq
     (.reg none [⟨(some 3), .mv (.t 0), none⟩,
       ⟨(some 4), .seq false (.t 3) (.c .nils), none⟩])
     (.cond (.t 4)
      (.seq
       (.reg none [⟨(some 2), .mv (.c .nils), none⟩])
       .ret)
      .skip))
    (.seq
     (.reg none [⟨(some 5), .bslice [(.int .i64 0)] 0 1 [], none⟩,
       ⟨(some 6), .mv (.t 0), none⟩,
       ⟨(some 7), .append 1 8 (.t 5) (.t 6), none⟩,
       ⟨(some 2), .mv (.t 7), none⟩])
     .ret))) }
theorem f56P : prepF C Try.f56 = some f56A := by kernel_rfl

/-- slices.CompareFunc[[][]int,[][]int,[]int,[]int] -/
def f57A : AFunc :=
{ nargs := 3, res := [.t 6], body :=
  (.seq
   (.reg none [⟨(some 6), .mv (.c (.int .i64 0)), none⟩])
   (.seq
    (.seq
     (.reg none [⟨(some 11), .mv (.t 0), none⟩,
       ⟨(some 12), .len (.t 11), none⟩,
       ⟨(some 13), .mv (.c (.int .i64 0)), none⟩])
     (.block 0
      (.loop
       (.seq
        (.reg none [⟨(some 14), .bin .lss (.t 13) (.t 12), none⟩])
        (.seq
         (.cond (.t 14)
          .skip
          (.exit 0))
         (.seq
          (.block 1
           (.seq
            (.reg none [⟨(some 15), .mv (.t 13), none⟩,
              ⟨(some 16), .iaddr 1 (.t 11) (.t 13), none⟩,
              ⟨(some 17), .load none (.t 16), none⟩,
              ⟨(some 7), .mv (.t 15), none⟩,
              ⟨(some 8), .mv (.t 17), none⟩])
            (.seq
             (.seq
              (.reg none [⟨(some 18), .mv (.t 7), none⟩,
                ⟨(some 19), .mv (.t 1), none⟩,
                ⟨(some 20), .len (.t 19), none⟩,
                ⟨(some 21), .bin .geq (.t 18) (.t 20), none⟩])
              (.cond (.t 21)
               (.seq
                (.reg none [⟨(some 6), .mv (.c (.int .i64 1)), none⟩])
                .ret)
               .skip))
             (.seq
              (.reg none [⟨(some 22), .mv (.t 1), none⟩,
                ⟨(some 23), .mv (.t 7), none⟩,
                ⟨(some 24), .iaddr 1 (.t 22) (.t 23), none⟩,
                ⟨(some 25), .load none (.t 24), none⟩,
                ⟨(some 9), .mv (.t 25), none⟩])
              (.seq
               (.reg none [⟨(some 26), .mv (.t 2), none⟩,
                 ⟨(some 27), .mv (.t 8), none⟩,
                 ⟨(some 28), .mv (.t 9), none⟩,
                 ⟨(some 29), .callv (.t 26) [(.t 27), (.t 28)], none⟩,
                 ⟨(some 10), .mv (.t 29), none⟩])
               (.seq
                (.reg none [⟨(some 30), .mv (.t 10), none⟩,
                  ⟨(some 31), .bin .neq (.t 30) (.c (.int .i64 0)), none⟩])
                (.cond (.t 31)
                 (.seq
                  (.reg none [⟨(some 32), .mv (.t 10), none⟩,
                    ⟨(some 6), .mv (.t 32), none⟩])
                  .ret)
                 .skip)))))))
          (.reg none [⟨(some 33), .bin .add (.t 13) (.c (.int .i64 1)), none⟩,
            ⟨(some 13), .mv (.t 33), none⟩])))))))
    (.seq
     (.seq
      (.reg none [⟨(some 34), .mv (.t 0), none⟩,
        ⟨(some 35), .len (.t 34), none⟩,
        ⟨(some 36), .mv (.t 1), none⟩,
        ⟨(some 37), .len (.t 36), none⟩,
        ⟨(some 38), .bin .lss (.t 35) (.t 37), none⟩])
      (.cond (.t 38)
       (.seq
        (.reg none [⟨(some 6), .mv (.c (.int .i64 (-1))), none⟩])
        .ret)
       .skip))
     (.seq
      (.reg none [⟨(some 6), .mv (.c (.int .i64 0)), none⟩])
      .ret)))) }
theorem f57P : prepF C Try.f57 = some f57A := by kernel_rfl

/-- slices.Compare[[]int,int] -/
def f59A : AFunc :=
{ nargs := 2, res := [.t 4], body :=
  (.seq
   (.reg none [⟨(some 4), .mv (.c (.int .i64 0)), none⟩])
   (.seq
    (.seq
     (.reg none [⟨(some 9), .mv (.t 0), none⟩,
       ⟨(some 10), .len (.t 9), none⟩,
       ⟨(some 11), .mv (.c (.int .i64 0)), none⟩])
     (.block 0
      (.loop
       (.seq
        (.reg none [⟨(some 12), .bin .lss (.t 11) (.t 10), none⟩])
        (.seq
         (.cond (.t 12)
          .skip
          (.exit 0))
         (.seq
          (.block 1
           (.seq
            (.reg none [⟨(some 13), .mv (.t 11), none⟩,
              ⟨(some 14), .iaddr 1 (.t 9) (.t 11), none⟩,
              ⟨(some 15), .load none (.t 14), none⟩,
              ⟨(some 5), .mv (.t 13), none⟩,
              ⟨(some 6), .mv (.t 15), none⟩])
            (.seq
             (.seq
              (.reg none [⟨(some 16), .mv (.t 5), none⟩,
                ⟨(some 17), .mv (.t 1), none⟩,
                ⟨(some 18), .len (.t 17), none⟩,
                ⟨(some 19), .bin .geq (.t 16) (.t 18), none⟩])
              (.cond (.t 19)
               (.seq
                (.reg none [⟨(some 4), .mv (.c (.int .i64 1)), none⟩])
                .ret)
               .skip))
             (.seq
              (.reg none [⟨(some 20), .mv (.t 1), none⟩,
                ⟨(some 21), .mv (.t 5), none⟩,
                ⟨(some 22), .iaddr 1 (.t 20) (.t 21), none⟩,
                ⟨(some 23), .load none (.t 22), none⟩,
                ⟨(some 7), .mv (.t 23), none⟩])
              (.seq
               (.reg none [⟨(some 24), .mv (.t 6), none⟩,
                 ⟨(some 25), .mv (.t 7), none⟩,
                 ⟨(some 26), .call 85 [(.t 24), (.t 25)], none⟩,
                 ⟨(some 8), .mv (.t 26), none⟩])
               (.seq
                (.reg none [⟨(some 27), .mv (.t 8), none⟩,
                  ⟨(some 28), .bin .neq (.t 27) (.c (.int .i64 0)), none⟩])
                (.cond (.t 28)
                 (.seq
                  (.reg none [⟨(some 29), .mv (.t 8), none⟩,
                    ⟨(some 4), .mv (.t 29), none⟩])
                  .ret)
                 .skip)))))))
          (.reg none [⟨(some 30), .bin .add (.t 11) (.c (.int .i64 1)), none⟩,
            ⟨(some 11), .mv (.t 30), none⟩])))))))
    (.seq
     (.seq
      (.reg none [⟨(some 31), .mv (.t 0), none⟩,
        ⟨(some 32), .len (.t 31), none⟩,
        ⟨(some 33), .mv (.t 1), none⟩,
        ⟨(some 34), .len (.t 33), none⟩,
        ⟨(some 35), .bin .lss (.t 32) (.t 34), none⟩])
      (.cond (.t 35)
       (.seq
        (.reg none [⟨(some 4), .mv (.c (.int .i64 (-1))), none⟩])
        .ret)
       .skip))
     (.seq
      (.reg none [⟨(some 4), .mv (.c (.int .i64 0)), none⟩])
      .ret)))) }
theorem f59P : prepF C Try.f59 = some f59A := by kernel_rfl

/-- congou/counts.Path -/
def f60A : AFunc :=
{ nargs := 2, res := [.t 4, .t 5], body :=
  (.seq
   (.reg none [⟨(some 4), .mv (.c .nils), none⟩,
     ⟨(some 5), .mv (.c (.int .i64 0)), none⟩])
   (.seq
    (.seq
     (.block 0
      (.seq
       (.reg none [⟨(some 15), .mv (.t 0), none⟩,
         ⟨(some 16), .call 70 [(.t 15)], none⟩,
         ⟨(some 17), .un .not (.t 16), none⟩,
         ⟨(some 18), .mv (.t 17), none⟩,
         ⟨(some 19), .mv (.t 1), some (18, false)⟩,
         ⟨(some 20), .call 70 [(.t 19)], some (18, false)⟩,
         ⟨(some 21), .un .not (.t 20), some (18, false)⟩,
         ⟨(some 22), .pick (.t 18) (.c (.b true)) (.t 21), none⟩,
         ⟨(some 14), .mv (.t 22), none⟩])
       (.cond (.t 14)
        (.seq
         (.reg none [⟨(some 4), .mv (.c .nils), none⟩,
           ⟨(some 5), .mv (.c (.int .i64 2)), none⟩])
         .ret)
        (.seq
         (.reg none [⟨(some 24), .mv (.t 0), none⟩,
           ⟨(some 25), .mv (.t 1), none⟩,
           ⟨(some 26), .call 90 [(.t 24), (.t 25)], none⟩,
           ⟨(some 27), .un .not (.t 26), none⟩,
           ⟨(some 23), .mv (.t 27), none⟩])
         (.cond (.t 23)
          (.seq
           (.reg none [⟨(some 4), .mv (.c .nils), none⟩,
             ⟨(some 5), .mv (.c (.int .i64 4)), none⟩])
           .ret)
          .skip)))))
     (.seq
      (.reg none [⟨(some 28), .mkmap 9, none⟩,
        ⟨(some 29), .mv (.t 0), none⟩,
        ⟨(some 30), .call 91 [(.t 29)], none⟩,
        ⟨none, .mset 9 (.t 28) (.t 30) (.c .nils), none⟩,
        ⟨(some 31), .mv (.t 28), none⟩,
        ⟨(some 6), .mv (.t 31), none⟩])
      (.seq
       .skip
       (.seq
        (.seq
         (.reg none [⟨(some 32), .mv (.t 0), none⟩,
           ⟨(some 33), .bslice [.nils] 1 1 [(0, (.t 32))], none⟩,
           ⟨(some 7), .mv (.t 33), none⟩])
         (.block 1
          (.loop
           (.seq
            (.seq
             (.reg none [⟨(some 34), .mv (.t 0), none⟩,
               ⟨(some 35), .mv (.t 1), none⟩,
               ⟨(some 36), .call 92 [(.t 34), (.t 35)], none⟩,
               ⟨(some 37), .bin .neq (.t 36) (.c (.int .i64 0)), none⟩])
             (.cond (.t 37)
              .skip
              (.exit 1)))
            (.seq
             (.block 2
              (.seq
               (.reg none [⟨(some 40), .mv (.t 7), none⟩,
                 ⟨(some 41), .iaddr 1 (.t 40) (.c (.int .i64 0)), none⟩,
                 ⟨(some 42), .load none (.t 41), none⟩,
                 ⟨(some 43), .call 93 [(.t 42)], none⟩,
                 ⟨(some 44), .len (.t 43), none⟩,
                 ⟨(some 45), .mv (.c (.int .i64 0)), none⟩])
               (.block 3
                (.loop
                 (.seq
                  (.reg none [⟨(some 46), .bin .lss (.t 45) (.t 44), none⟩])
                  (.seq
                   (.cond (.t 46)
                    .skip
                    (.exit 3))
                   (.seq
                    (.block 4
                     (.seq
                      (.reg none [⟨(some 47), .iaddr 1 (.t 43) (.t 45), none⟩,
                        ⟨(some 48), .load none (.t 47), none⟩,
                        ⟨(some 9), .mv (.t 48), none⟩])
                      (.seq
                       (.seq
                        (.reg none [⟨(some 50), .mv (.t 6), none⟩,
                          ⟨(some 51), .mv (.t 9), none⟩,
                          ⟨(some 52), .call 91 [(.t 51)], none⟩,
                          ⟨(some 53), .mlook 9 .nils true (.t 50) (.t 52), none⟩,
                          ⟨(some 49), .mv (.t 53), none⟩,
                          ⟨(some 54), .extr (.t 49) 0, none⟩,
                          ⟨(some 55), .extr (.t 49) 1, none⟩,
                          ⟨(some 10), .mv (.t 54), none⟩,
                          ⟨(some 11), .mv (.t 55), none⟩])
                        (.seq
                         (.reg none [⟨(some 56), .mv (.t 11), none⟩])
                         (.cond (.t 56)
                          (.exit 4)
                          .skip)))
                       (.seq
                        (.reg (some []) [⟨(some 57), .mv (.t 6), none⟩,
                          ⟨(some 58), .mv (.t 9), none⟩,
                          ⟨(some 59), .call 91 [(.t 58)], none⟩,
                          ⟨(some 60), .mv (.t 7), none⟩,
                          ⟨(some 61), .iaddr 1 (.t 60) (.c (.int .i64 0)), none⟩,
                          ⟨(some 62), .load none (.t 61), none⟩,
                          ⟨none, .mset 9 (.t 57) (.t 59) (.t 62), none⟩])
                        (.seq
                         (.seq
                          (.reg none [⟨(some 63), .mv (.t 9), none⟩,
                            ⟨(some 64), .mv (.t 1), none⟩,
                            ⟨(some 65), .call 92 [(.t 63), (.t 64)], none⟩,
                            ⟨(some 66), .bin .eql (.t 65) (.c (.int .i64 0)), none⟩])
                          (.cond (.t 66)
                           (.exit 1)
                           .skip))
                         (.reg none [⟨(some 67), .mv (.t 7), none⟩,
                           ⟨(some 68), .mv (.t 9), none⟩,
                           ⟨(some 69), .bslice [.nils] 1 1 [(0, (.t 68))], none⟩,
                           ⟨(some 70), .append 1 24 (.t 67) (.t 69), none⟩,
                           ⟨(some 7), .mv (.t 70), none⟩]))))))
                    (.reg none [⟨(some 71), .bin .add (.t 45) (.c (.int .i64 1)), none⟩,
                      ⟨(some 45), .mv (.t 71), none⟩]))))))))
             (.reg none [⟨(some 38), .mv (.t 7), none⟩,
               ⟨(some 39), .slice 1 (.t 38) (some (.c (.int .i64 1))) none none, none⟩,
               ⟨(some 7), .mv (.t 39), none⟩]))))))
        (.seq
         (.reg none [⟨(some 12), .mv (.c .nils), none⟩])
         (.seq
          (.seq
           (.reg none [⟨(some 72), .mv (.t 1), none⟩,
             ⟨(some 13), .mv (.t 72), none⟩])
           (.block 5
            (.loop
             (.seq
              (.seq
               (.reg none [⟨(some 73), .mv (.t 13), none⟩,
                 ⟨(some 74), .seq true (.t 73) (.c .nils), none⟩])
               (.cond (.t 74)
                .skip
                (.exit 5)))
              (.seq
               (.block 6
                (.reg none [⟨(some 79), .mv (.t 12), none⟩,
                  ⟨(some 80), .mv (.t 13), none⟩,
                  ⟨(some 81), .call 84 [(.t 80)], none⟩,
                  ⟨(some 82), .bslice [.nils] 1 1 [(0, (.t 81))], none⟩,
                  ⟨(some 83), .append 1 24 (.t 79) (.t 82), none⟩,
                  ⟨(some 12), .mv (.t 83), none⟩]))
               (.reg none [⟨(some 75), .mv (.t 6), none⟩,
                 ⟨(some 76), .mv (.t 13), none⟩,
                 ⟨(some 77), .call 91 [(.t 76)], none⟩,
                 ⟨(some 78), .mlook 9 .nils false (.t 75) (.t 77), none⟩,
                 ⟨(some 13), .mv (.t 78), none⟩]))))))
          (.seq
           (.reg none [⟨(some 84), .mv (.t 12), none⟩,
             ⟨(some 85), .call 68 [(.t 84)], none⟩])
           (.seq
            (.reg none [⟨(some 86), .mv (.t 12), none⟩,
              ⟨(some 4), .mv (.t 86), none⟩,
              ⟨(some 5), .mv (.c (.int .i64 0)), none⟩])
            .ret))))))))
    .skip)) }
theorem f60P : prepF C Try.f60 = some f60A := by kernel_rfl

/-- congou/counts.CheckPath -/
def f61A : AFunc :=
{ nargs := 3, res := [.t 6, .t 7], body :=
  (.seq
   (.reg none [⟨(some 6), .mv (.c (.b false)), none⟩,
     ⟨(some 7), .mv (.c (.int .i64 0)), none⟩])
   (.seq
    (.seq
     (.reg none [⟨(some 11), .mv (.t 0), none⟩,
       ⟨(some 12), .call 70 [(.t 11)], none⟩,
       ⟨(some 13), .un .not (.t 12), none⟩,
       ⟨(some 14), .mv (.t 13), none⟩,
       ⟨(some 15), .mv (.t 1), some (14, false)⟩,
       ⟨(some 16), .call 70 [(.t 15)], some (14, false)⟩,
       ⟨(some 17), .un .not (.t 16), some (14, false)⟩,
       ⟨(some 18), .pick (.t 14) (.c (.b true)) (.t 17), none⟩])
     (.cond (.t 18)
      (.seq
       (.reg none [⟨(some 6), .mv (.c (.b false)), none⟩,
         ⟨(some 7), .mv (.c (.int .i64 2)), none⟩])
       .ret)
      .skip))
    (.seq
     (.seq
      (.reg none [⟨(some 19), .mv (.t 2), none⟩,
        ⟨(some 20), .len (.t 19), none⟩,
        ⟨(some 21), .bin .eql (.t 20) (.c (.int .i64 0)), none⟩,
        ⟨(some 22), .mv (.t 21), none⟩,
        ⟨(some 23), .mv (.t 2), some (22, false)⟩,
        ⟨(some 24), .iaddr 1 (.t 23) (.c (.int .i64 0)), some (22, false)⟩,
        ⟨(some 25), .load none (.t 24), some (22, false)⟩,
        ⟨(some 26), .mv (.t 0), some (22, false)⟩,
        ⟨(some 27), .call 92 [(.t 25), (.t 26)], some (22, false)⟩,
        ⟨(some 28), .bin .neq (.t 27) (.c (.int .i64 0)), some (22, false)⟩,
        ⟨(some 29), .pick (.t 22) (.c (.b true)) (.t 28), none⟩,
        ⟨(some 30), .mv (.t 29), none⟩,
        ⟨(some 31), .mv (.t 2), some (30, false)⟩,
        ⟨(some 32), .mv (.t 2), some (30, false)⟩,
        ⟨(some 33), .len (.t 32), some (30, false)⟩,
        ⟨(some 34), .bin .sub (.t 33) (.c (.int .i64 1)), some (30, false)⟩,
        ⟨(some 35), .iaddr 1 (.t 31) (.t 34), some (30, false)⟩,
        ⟨(some 36), .load none (.t 35), some (30, false)⟩,
        ⟨(some 37), .mv (.t 1), some (30, false)⟩,
        ⟨(some 38), .call 92 [(.t 36), (.t 37)], some (30, false)⟩,
        ⟨(some 39), .bin .neq (.t 38) (.c (.int .i64 0)), some (30, false)⟩,
        ⟨(some 40), .pick (.t 30) (.c (.b true)) (.t 39), none⟩])
      (.cond (.t 40)
       (.seq
        (.reg none [⟨(some 6), .mv (.c (.b false)), none⟩,
          ⟨(some 7), .mv (.c (.int .i64 0)), none⟩])
        .ret)
       .skip))
     (.seq
      (.reg none [⟨(some 41), .mv (.t 0), none⟩,
        ⟨(some 8), .mv (.t 41), none⟩])
      (.seq
       (.seq
        (.reg none [⟨(some 42), .mv (.t 2), none⟩,
          ⟨(some 43), .slice 1 (.t 42) (some (.c (.int .i64 1))) none none, none⟩,
          ⟨(some 44), .len (.t 43), none⟩,
          ⟨(some 45), .mv (.c (.int .i64 0)), none⟩])
        (.block 0
         (.loop
          (.seq
           (.reg none [⟨(some 46), .bin .lss (.t 45) (.t 44), none⟩])
           (.seq
            (.cond (.t 46)
             .skip
             (.exit 0))
            (.seq
             (.block 1
              (.seq
               (.reg none [⟨(some 47), .iaddr 1 (.t 43) (.t 45), none⟩,
                 ⟨(some 48), .load none (.t 47), none⟩,
                 ⟨(some 10), .alloc [.nils], none⟩,
                 ⟨none, .store 1 (.t 10) (.t 48), none⟩])
               (.seq
                (.seq
                 (.reg none [⟨(some 49), .mv (.t 8), none⟩,
                   ⟨(some 50), .call 93 [(.t 49)], none⟩,
                   ⟨(some 51), .mkfn 95 [] [(.t 10)], none⟩,
                   ⟨(some 52), .call 94 [(.t 50), (.t 51)], none⟩,
                   ⟨(some 53), .un .not (.t 52), none⟩])
                 (.cond (.t 53)
                  (.seq
                   (.reg none [⟨(some 6), .mv (.c (.b false)), none⟩,
                     ⟨(some 7), .mv (.c (.int .i64 0)), none⟩])
                   .ret)
                  .skip))
                (.reg none [⟨(some 54), .load none (.t 10), none⟩,
                  ⟨(some 8), .mv (.t 54), none⟩]))))
             (.reg none [⟨(some 55), .bin .add (.t 45) (.c (.int .i64 1)), none⟩,
               ⟨(some 45), .mv (.t 55), none⟩])))))))
       (.seq
        (.reg none [⟨(some 6), .mv (.c (.b true)), none⟩,
          ⟨(some 7), .mv (.c (.int .i64 0)), none⟩])
        .ret)))))) }
theorem f61P : prepF C Try.f61 = some f61A := by kernel_rfl

/-- congou/congoulaw06.path -/
def f62A : AFunc :=
{ nargs := 1, res := [.t 2], body :=
  (.seq
   (.reg none [⟨(some 2), .mv (.c .nils), none⟩])
   (.seq
    (.reg none [⟨(some 3), .mv (.c .nils), none⟩])
    (.seq
     (.seq
      (.reg none [⟨(some 6), .mv (.t 0), none⟩,
        ⟨(some 7), .len (.t 6), none⟩,
        ⟨(some 8), .mv (.c (.int .i64 0)), none⟩])
      (.block 0
       (.loop
        (.seq
         (.reg none [⟨(some 9), .bin .lss (.t 8) (.t 7), none⟩])
         (.seq
          (.cond (.t 9)
           .skip
           (.exit 0))
          (.seq
           (.block 1
            (.seq
             (.reg none [⟨(some 10), .mv (.t 8), none⟩,
               ⟨(some 11), .iaddr 1 (.t 6) (.t 8), none⟩,
               ⟨(some 12), .load none (.t 11), none⟩,
               ⟨(some 4), .mv (.t 10), none⟩,
               ⟨(some 5), .mv (.t 12), none⟩])
             (.seq
              (.reg none [⟨(some 13), .mv (.t 4), none⟩,
                ⟨(some 14), .bin .lss (.t 13) (.c (.int .i64 40)), none⟩])
              (.cond (.t 14)
               (.reg none [⟨(some 15), .mv (.t 3), none⟩,
                 ⟨(some 16), .mv (.t 5), none⟩,
                 ⟨(some 17), .call 20 [(.t 16)], none⟩,
                 ⟨(some 18), .bslice [.nils] 1 1 [(0, (.t 17))], none⟩,
                 ⟨(some 19), .append 1 24 (.t 15) (.t 18), none⟩,
                 ⟨(some 3), .mv (.t 19), none⟩])
               .skip))))
           (.reg none [⟨(some 20), .bin .add (.t 8) (.c (.int .i64 1)), none⟩,
             ⟨(some 8), .mv (.t 20), none⟩])))))))
     (.seq
      (.reg none [⟨(some 21), .mv (.t 3), none⟩,
        ⟨(some 2), .mv (.t 21), none⟩])
      .ret)))) }
theorem f62P : prepF C Try.f62 = some f62A := by kernel_rfl

/-- slices.ContainsFunc[[][][]int,[][]int] -/
def f66A : AFunc :=
{ nargs := 2, res := [.t 4], body :=
  (.seq
   (.reg none [⟨(some 4), .mv (.c (.b false)), none⟩])
   (.seq
    (.reg none [⟨(some 5), .mv (.t 0), none⟩,
      ⟨(some 6), .mv (.t 1), none⟩,
      ⟨(some 7), .call 98 [(.t 5), (.t 6)], none⟩,
      ⟨(some 8), .bin .geq (.t 7) (.c (.int .i64 0)), none⟩,
      ⟨(some 4), .mv (.t 8), none⟩])
    .ret)) }
theorem f66P : prepF C Try.f66 = some f66A := by kernel_rfl

/-- congou/congoulaw06.CountsLed$1 -/
def f67A : AFunc :=
{ nargs := 2, res := [.t 3], body :=
  (.seq
   (.reg none [⟨(some 3), .mv (.c (.b false)), none⟩])
   (.seq
    (.reg none [⟨(some 4), .load none (.t 1), none⟩,
      ⟨(some 5), .mv (.t 0), none⟩,
      ⟨(some 6), .call 26 [(.t 4), (.t 5)], none⟩,
      ⟨(some 3), .mv (.t 6), none⟩])
    .ret)) }
theorem f67P : prepF C Try.f67 = some f67A := by kernel_rfl

/-- slices.Reverse[[][][]int,[][]int] -/
def f68A : AFunc :=
{ nargs := 1, res := [], body :=
  (.seq
   (.reg none [⟨(some 4), .mv (.t 0), none⟩,
     ⟨(some 5), .len (.t 4), none⟩,
     ⟨(some 6), .bin .sub (.t 5) (.c (.int .i64 1)), none⟩,
     ⟨(some 2), .mv (.c (.int .i64 0)), none⟩,
     ⟨(some 3), .mv (.t 6), none⟩])
   (.block 0
    (.loop
     (.seq
      (.seq
       (.reg none [⟨(some 7), .mv (.t 2), none⟩,
         ⟨(some 8), .mv (.t 3), none⟩,
         ⟨(some 9), .bin .lss (.t 7) (.t 8), none⟩])
       (.cond (.t 9)
        .skip
        (.exit 0)))
      (.seq
       (.block 1
        (.reg (some []) [⟨(some 14), .mv (.t 0), none⟩,
          ⟨(some 15), .mv (.t 2), none⟩,
          ⟨(some 16), .mv (.t 0), none⟩,
          ⟨(some 17), .mv (.t 3), none⟩,
          ⟨(some 18), .mv (.t 0), none⟩,
          ⟨(some 19), .mv (.t 3), none⟩,
          ⟨(some 20), .iaddr 1 (.t 18) (.t 19), none⟩,
          ⟨(some 21), .load none (.t 20), none⟩,
          ⟨(some 22), .mv (.t 0), none⟩,
          ⟨(some 23), .mv (.t 2), none⟩,
          ⟨(some 24), .iaddr 1 (.t 22) (.t 23), none⟩,
          ⟨(some 25), .load none (.t 24), none⟩,
          ⟨(some 26), .iaddr 1 (.t 14) (.t 15), none⟩,
          ⟨none, .store 1 (.t 26) (.t 21), none⟩,
          ⟨(some 27), .iaddr 1 (.t 16) (.t 17), none⟩,
          ⟨none, .store 1 (.t 27) (.t 25), none⟩]))
       (.reg none [⟨(some 10), .mv (.t 2), none⟩,
         ⟨(some 11), .bin .add (.t 10) (.c (.int .i64 1)), none⟩,
         ⟨(some 12), .mv (.t 3), none⟩,
         ⟨(some 13), .bin .sub (.t 12) (.c (.int .i64 1)), none⟩,
         ⟨(some 2), .mv (.t 11), none⟩,
         ⟨(some 3), .mv (.t 13), none⟩])))))) }
theorem f68P : prepF C Try.f68 = some f68A := by kernel_rfl

/-- congou/congoulaw06.CountsLed$2 -/
def f69A : AFunc :=
{ nargs := 2, res := [.t 3], body :=
  (.seq
   (.reg none [⟨(some 3), .mv (.c (.b false)), none⟩])
   (.seq
    (.reg none [⟨(some 4), .load none (.t 1), none⟩,
      ⟨(some 5), .mv (.t 0), none⟩,
      ⟨(some 6), .call 26 [(.t 4), (.t 5)], none⟩,
      ⟨(some 3), .mv (.t 6), none⟩])
    .ret)) }
theorem f69P : prepF C Try.f69 = some f69A := by kernel_rfl

/-- (congou/counts.table).valid -/
def f70A : AFunc :=
{ nargs := 1, res := [.t 2], body :=
  (.seq
   (.reg none [⟨(some 2), .mv (.c (.b false)), none⟩])
   (.seq
    (.seq
     (.reg none [⟨(some 8), .mv (.t 0), none⟩,
       ⟨(some 9), .len (.t 8), none⟩,
       ⟨(some 10), .bin .lss (.t 9) (.c (.int .i64 1)), none⟩,
       ⟨(some 11), .mv (.t 10), none⟩,
       ⟨(some 12), .mv (.t 0), some (11, false)⟩,
       ⟨(some 13), .len (.t 12), some (11, false)⟩,
       ⟨(some 14), .bin .gtr (.t 13) (.c (.int .i64 3)), some (11, false)⟩,
       ⟨(some 15), .pick (.t 11) (.c (.b true)) (.t 14), none⟩])
     (.cond (.t 15)
      (.seq
       (.reg none [⟨(some 2), .mv (.c (.b false)), none⟩])
       .ret)
      .skip))
    (.seq
     (.reg none [⟨(some 3), .mv (.c (.int .i64 0)), none⟩])
     (.seq
      (.seq
       (.reg none [⟨(some 16), .mv (.t 0), none⟩,
         ⟨(some 17), .len (.t 16), none⟩,
         ⟨(some 18), .mv (.c (.int .i64 0)), none⟩])
       (.block 0
        (.loop
         (.seq
          (.reg none [⟨(some 19), .bin .lss (.t 18) (.t 17), none⟩])
          (.seq
           (.cond (.t 19)
            .skip
            (.exit 0))
           (.seq
            (.block 1
             (.seq
              (.reg none [⟨(some 20), .iaddr 1 (.t 16) (.t 18), none⟩,
                ⟨(some 21), .load none (.t 20), none⟩,
                ⟨(some 5), .mv (.t 21), none⟩])
              (.seq
               (.seq
                (.reg none [⟨(some 22), .mv (.t 5), none⟩,
                  ⟨(some 23), .len (.t 22), none⟩,
                  ⟨(some 24), .bin .lss (.t 23) (.c (.int .i64 1)), none⟩,
                  ⟨(some 25), .mv (.t 24), none⟩,
                  ⟨(some 26), .mv (.t 5), some (25, false)⟩,
                  ⟨(some 27), .len (.t 26), some (25, false)⟩,
                  ⟨(some 28), .bin .gtr (.t 27) (.c (.int .i64 3)), some (25, false)⟩,
                  ⟨(some 29), .pick (.t 25) (.c (.b true)) (.t 28), none⟩,
                  ⟨(some 30), .mv (.t 29), none⟩,
                  ⟨(some 31), .mv (.t 5), some (30, false)⟩,
                  ⟨(some 32), .len (.t 31), some (30, false)⟩,
                  ⟨(some 33), .mv (.t 0), some (30, false)⟩,
                  ⟨(some 34), .iaddr 1 (.t 33) (.c (.int .i64 0)), some (30, false)⟩,
                  ⟨(some 35), .load none (.t 34), some (30, false)⟩,
                  ⟨(some 36), .len (.t 35), some (30, false)⟩,
                  ⟨(some 37), .bin .neq (.t 32) (.t 36), some (30, false)⟩,
                  ⟨(some 38), .pick (.t 30) (.c (.b true)) (.t 37), none⟩,
                  ⟨(some 39), .mv (.t 38), none⟩,
                  ⟨(some 40), .mv (.t 5), some (39, false)⟩,
                  ⟨(some 41), .call 79 [(.t 40)], some (39, false)⟩,
                  ⟨(some 42), .un .not (.t 41), some (39, false)⟩,
                  ⟨(some 43), .pick (.t 39) (.c (.b true)) (.t 42), none⟩])
                (.cond (.t 43)
                 (.seq
                  (.reg none [⟨(some 2), .mv (.c (.b false)), none⟩])
                  .ret)
                 .skip))
               (.seq
                (.reg none [⟨(some 44), .mv (.t 5), none⟩,
                  ⟨(some 45), .len (.t 44), none⟩,
                  ⟨(some 46), .mv (.c (.int .i64 0)), none⟩])
                (.block 2
                 (.loop
                  (.seq
                   (.reg none [⟨(some 47), .bin .lss (.t 46) (.t 45), none⟩])
                   (.seq
                    (.cond (.t 47)
                     .skip
                     (.exit 2))
                    (.seq
                     (.block 3
                      (.seq
                       (.reg none [⟨(some 48), .iaddr 1 (.t 44) (.t 46), none⟩,
                         ⟨(some 49), .load none (.t 48), none⟩,
                         ⟨(some 7), .mv (.t 49), none⟩])
                       (.reg none [⟨(some 50), .mv (.t 3), none⟩,
                         ⟨(some 51), .mv (.t 7), none⟩,
                         ⟨(some 52), .bin .add (.t 50) (.t 51), none⟩,
                         ⟨(some 3), .mv (.t 52), none⟩])))
                     (.reg none [⟨(some 53), .bin .add (.t 46) (.c (.int .i64 1)), none⟩,
                       ⟨(some 46), .mv (.t 53), none⟩]))))))))))
            (.reg none [⟨(some 54), .bin .add (.t 18) (.c (.int .i64 1)), none⟩,
              ⟨(some 18), .mv (.t 54), none⟩])))))))
      (.seq
       (.reg none [⟨(some 55), .mv (.t 3), none⟩,
         ⟨(some 56), .bin .leq (.t 55) (.c (.int .i64 16)), none⟩,
         ⟨(some 2), .mv (.t 56), none⟩])
       .ret))))) }
theorem f70P : prepF C Try.f70 = some f70A := by kernel_rfl

/-- (congou/counts.table).sums -/
def f71A : AFunc :=
{ nargs := 1, res := [.t 2, .t 3], body :=
  (.seq
   (.reg none [⟨(some 2), .mv (.c .nils), none⟩,
     ⟨(some 3), .mv (.c .nils), none⟩])
   (.seq
    (.reg none [⟨(some 9), .mv (.t 0), none⟩,
      ⟨(some 10), .iaddr 1 (.t 9) (.c (.int .i64 0)), none⟩,
      ⟨(some 11), .load none (.t 10), none⟩,
      ⟨(some 12), .len (.t 11), none⟩,
      ⟨(some 13), .mkslice 1 8 [(.int .i64 0)] (.t 12), none⟩,
      ⟨(some 3), .mv (.t 13), none⟩])
    (.seq
     (.seq
      (.reg none [⟨(some 14), .mv (.t 0), none⟩,
        ⟨(some 15), .len (.t 14), none⟩,
        ⟨(some 16), .mv (.c (.int .i64 0)), none⟩])
      (.block 0
       (.loop
        (.seq
         (.reg none [⟨(some 17), .bin .lss (.t 16) (.t 15), none⟩])
         (.seq
          (.cond (.t 17)
           .skip
           (.exit 0))
          (.seq
           (.block 1
            (.seq
             (.reg none [⟨(some 18), .iaddr 1 (.t 14) (.t 16), none⟩,
               ⟨(some 19), .load none (.t 18), none⟩,
               ⟨(some 5), .mv (.t 19), none⟩])
             (.seq
              (.reg none [⟨(some 6), .mv (.c (.int .i64 0)), none⟩])
              (.seq
               (.seq
                (.reg none [⟨(some 20), .mv (.t 5), none⟩,
                  ⟨(some 21), .len (.t 20), none⟩,
                  ⟨(some 22), .mv (.c (.int .i64 0)), none⟩])
                (.block 2
                 (.loop
                  (.seq
                   (.reg none [⟨(some 23), .bin .lss (.t 22) (.t 21), none⟩])
                   (.seq
                    (.cond (.t 23)
                     .skip
                     (.exit 2))
                    (.seq
                     (.block 3
                      (.seq
                       (.reg none [⟨(some 24), .mv (.t 22), none⟩,
                         ⟨(some 25), .iaddr 1 (.t 20) (.t 22), none⟩,
                         ⟨(some 26), .load none (.t 25), none⟩,
                         ⟨(some 7), .mv (.t 24), none⟩,
                         ⟨(some 8), .mv (.t 26), none⟩])
                       (.seq
                        (.reg none [⟨(some 27), .mv (.t 6), none⟩,
                          ⟨(some 28), .mv (.t 8), none⟩,
                          ⟨(some 29), .bin .add (.t 27) (.t 28), none⟩,
                          ⟨(some 6), .mv (.t 29), none⟩])
                        (.reg none [⟨(some 30), .mv (.t 3), none⟩,
                          ⟨(some 31), .mv (.t 7), none⟩,
                          ⟨(some 32), .iaddr 1 (.t 30) (.t 31), none⟩,
                          ⟨(some 33), .load none (.t 32), none⟩,
                          ⟨(some 34), .mv (.t 8), none⟩,
                          ⟨(some 35), .bin .add (.t 33) (.t 34), none⟩,
                          ⟨(some 36), .iaddr 1 (.t 30) (.t 31), none⟩,
                          ⟨none, .store 1 (.t 36) (.t 35), none⟩]))))
                     (.reg none [⟨(some 37), .bin .add (.t 22) (.c (.int .i64 1)), none⟩,
                       ⟨(some 22), .mv (.t 37), none⟩])))))))
               (.reg none [⟨(some 38), .mv (.t 2), none⟩,
                 ⟨(some 39), .mv (.t 6), none⟩,
                 ⟨(some 40), .bslice [(.int .i64 0)] 1 1 [(0, (.t 39))], none⟩,
                 ⟨(some 41), .append 1 8 (.t 38) (.t 40), none⟩,
                 ⟨(some 2), .mv (.t 41), none⟩])))))
           (.reg none [⟨(some 42), .bin .add (.t 16) (.c (.int .i64 1)), none⟩,
             ⟨(some 16), .mv (.t 42), none⟩])))))))
     (.seq
      (.reg none [⟨(some 43), .mv (.t 2), none⟩,
        ⟨(some 44), .mv (.t 3), none⟩,
        ⟨(some 2), .mv (.t 43), none⟩,
        ⟨(some 3), .mv (.t 44), none⟩])
      .ret)))) }
theorem f71P : prepF C Try.f71 = some f71A := by kernel_rfl

/-- (congou/counts.table).swapped -/
def f74A : AFunc :=
{ nargs := 5, res := [.t 10, .t 11], body :=
  (.seq
   (.reg none [⟨(some 10), .mv (.c .nils), none⟩,
     ⟨(some 11), .mv (.c (.b false)), none⟩])
   (.seq
    (.seq
     (.reg none [⟨(some 13), .mv (.t 0), none⟩,
       ⟨(some 14), .mv (.t 1), none⟩,
       ⟨(some 15), .iaddr 1 (.t 13) (.t 14), none⟩,
       ⟨(some 16), .load none (.t 15), none⟩,
       ⟨(some 17), .mv (.t 4), none⟩,
       ⟨(some 18), .iaddr 1 (.t 16) (.t 17), none⟩,
       ⟨(some 19), .load none (.t 18), none⟩,
       ⟨(some 20), .bin .eql (.t 19) (.c (.int .i64 0)), none⟩,
       ⟨(some 21), .mv (.t 20), none⟩,
       ⟨(some 22), .mv (.t 0), some (21, false)⟩,
       ⟨(some 23), .mv (.t 2), some (21, false)⟩,
       ⟨(some 24), .iaddr 1 (.t 22) (.t 23), some (21, false)⟩,
       ⟨(some 25), .load none (.t 24), some (21, false)⟩,
       ⟨(some 26), .mv (.t 3), some (21, false)⟩,
       ⟨(some 27), .iaddr 1 (.t 25) (.t 26), some (21, false)⟩,
       ⟨(some 28), .load none (.t 27), some (21, false)⟩,
       ⟨(some 29), .bin .eql (.t 28) (.c (.int .i64 0)), some (21, false)⟩,
       ⟨(some 30), .pick (.t 21) (.c (.b true)) (.t 29), none⟩])
     (.cond (.t 30)
      (.seq
       (.reg none [⟨(some 10), .mv (.c .nils), none⟩,
         ⟨(some 11), .mv (.c (.b false)), none⟩])
       .ret)
      .skip))
    (.seq
     (.reg none [⟨(some 31), .mv (.t 0), none⟩,
       ⟨(some 32), .call 84 [(.t 31)], none⟩,
       ⟨(some 12), .mv (.t 32), none⟩])
     (.seq
      (.reg none [⟨(some 33), .mv (.t 12), none⟩,
        ⟨(some 34), .mv (.t 1), none⟩,
        ⟨(some 35), .iaddr 1 (.t 33) (.t 34), none⟩,
        ⟨(some 36), .load none (.t 35), none⟩,
        ⟨(some 37), .mv (.t 3), none⟩,
        ⟨(some 38), .iaddr 1 (.t 36) (.t 37), none⟩,
        ⟨(some 39), .load none (.t 38), none⟩,
        ⟨(some 40), .bin .add (.t 39) (.c (.int .i64 1)), none⟩,
        ⟨(some 41), .iaddr 1 (.t 36) (.t 37), none⟩,
        ⟨none, .store 1 (.t 41) (.t 40), none⟩])
      (.seq
       (.reg none [⟨(some 42), .mv (.t 12), none⟩,
         ⟨(some 43), .mv (.t 2), none⟩,
         ⟨(some 44), .iaddr 1 (.t 42) (.t 43), none⟩,
         ⟨(some 45), .load none (.t 44), none⟩,
         ⟨(some 46), .mv (.t 4), none⟩,
         ⟨(some 47), .iaddr 1 (.t 45) (.t 46), none⟩,
         ⟨(some 48), .load none (.t 47), none⟩,
         ⟨(some 49), .bin .add (.t 48) (.c (.int .i64 1)), none⟩,
         ⟨(some 50), .iaddr 1 (.t 45) (.t 46), none⟩,
         ⟨none, .store 1 (.t 50) (.t 49), none⟩])
       (.seq
        (.reg none [⟨(some 51), .mv (.t 12), none⟩,
          ⟨(some 52), .mv (.t 1), none⟩,
          ⟨(some 53), .iaddr 1 (.t 51) (.t 52), none⟩,
          ⟨(some 54), .load none (.t 53), none⟩,
          ⟨(some 55), .mv (.t 4), none⟩,
          ⟨(some 56), .iaddr 1 (.t 54) (.t 55), none⟩,
          ⟨(some 57), .load none (.t 56), none⟩,
          ⟨(some 58), .bin .sub (.t 57) (.c (.int .i64 1)), none⟩,
          ⟨(some 59), .iaddr 1 (.t 54) (.t 55), none⟩,
          ⟨none, .store 1 (.t 59) (.t 58), none⟩])
        (.seq
         (.reg none [⟨(some 60), .mv (.t 12), none⟩,
           ⟨(some 61), .mv (.t 2), none⟩,
           ⟨(some 62), .iaddr 1 (.t 60) (.t 61), none⟩,
           ⟨(some 63), .load none (.t 62), none⟩,
           ⟨(some 64), .mv (.t 3), none⟩,
           ⟨(some 65), .iaddr 1 (.t 63) (.t 64), none⟩,
           ⟨(some 66), .load none (.t 65), none⟩,
           ⟨(some 67), .bin .sub (.t 66) (.c (.int .i64 1)), none⟩,
           ⟨(some 68), .iaddr 1 (.t 63) (.t 64), none⟩,
           ⟨none, .store 1 (.t 68) (.t 67), none⟩])
         (.seq
          (.reg none [⟨(some 69), .mv (.t 12), none⟩,
            ⟨(some 10), .mv (.t 69), none⟩,
            ⟨(some 11), .mv (.c (.b true)), none⟩])
          .ret)))))))) }
theorem f74P : prepF C Try.f74 = some f74A := by kernel_rfl

/-- congou/counts.isSums -/
def f79A : AFunc :=
{ nargs := 1, res := [.t 2], body :=
  (.seq
   (.reg none [⟨(some 2), .mv (.c (.b false)), none⟩])
   (.seq
    (.reg none [⟨(some 3), .mv (.c (.int .i64 0)), none⟩])
    (.seq
     (.seq
      (.reg none [⟨(some 6), .mv (.t 0), none⟩,
        ⟨(some 7), .len (.t 6), none⟩,
        ⟨(some 8), .mv (.c (.int .i64 0)), none⟩])
      (.block 0
       (.loop
        (.seq
         (.reg none [⟨(some 9), .bin .lss (.t 8) (.t 7), none⟩])
         (.seq
          (.cond (.t 9)
           .skip
           (.exit 0))
          (.seq
           (.block 1
            (.seq
             (.reg none [⟨(some 10), .iaddr 1 (.t 6) (.t 8), none⟩,
               ⟨(some 11), .load none (.t 10), none⟩,
               ⟨(some 5), .mv (.t 11), none⟩])
             (.seq
              (.seq
               (.reg none [⟨(some 12), .mv (.t 5), none⟩,
                 ⟨(some 13), .bin .lss (.t 12) (.c (.int .i64 0)), none⟩,
                 ⟨(some 14), .mv (.t 13), none⟩,
                 ⟨(some 15), .mv (.t 5), some (14, false)⟩,
                 ⟨(some 16), .bin .gtr (.t 15) (.c (.int .i64 16)), some (14, false)⟩,
                 ⟨(some 17), .pick (.t 14) (.c (.b true)) (.t 16), none⟩])
               (.cond (.t 17)
                (.seq
                 (.reg none [⟨(some 2), .mv (.c (.b false)), none⟩])
                 .ret)
                .skip))
              (.reg none [⟨(some 18), .mv (.t 3), none⟩,
                ⟨(some 19), .mv (.t 5), none⟩,
                ⟨(some 20), .bin .add (.t 18) (.t 19), none⟩,
                ⟨(some 3), .mv (.t 20), none⟩]))))
           (.reg none [⟨(some 21), .bin .add (.t 8) (.c (.int .i64 1)), none⟩,
             ⟨(some 8), .mv (.t 21), none⟩])))))))
     (.seq
      (.reg none [⟨(some 22), .mv (.t 3), none⟩,
        ⟨(some 23), .bin .leq (.t 22) (.c (.int .i64 16)), none⟩,
        ⟨(some 2), .mv (.t 23), none⟩])
      .ret)))) }
theorem f79P : prepF C Try.f79 = some f79A := by kernel_rfl

/-- (congou/counts.margins).all -/
def f80A : AFunc :=
{ nargs := 2, res := [], body :=
  (.seq
   (.reg none [⟨(some 2), .box (.t 0), none⟩,
     ⟨(some 3), .box (.t 1), none⟩])
   (.seq
    (.reg none [⟨(some 8), .faddr 0 (.t 2), none⟩,
      ⟨(some 9), .load none (.t 8), none⟩,
      ⟨(some 10), .len (.t 9), none⟩,
      ⟨(some 11), .mkslice 1 24 [.nils] (.t 10), none⟩,
      ⟨(some 4), .alloc [.nils], none⟩,
      ⟨none, .store 1 (.t 4) (.t 11), none⟩])
    (.seq
     (.seq
      (.reg none [⟨(some 12), .load none (.t 4), none⟩,
        ⟨(some 13), .len (.t 12), none⟩,
        ⟨(some 14), .mv (.c (.int .i64 0)), none⟩])
      (.block 0
       (.loop
        (.seq
         (.reg none [⟨(some 15), .bin .lss (.t 14) (.t 13), none⟩])
         (.seq
          (.cond (.t 15)
           .skip
           (.exit 0))
          (.seq
           (.block 1
            (.seq
             (.reg none [⟨(some 16), .mv (.t 14), none⟩,
               ⟨(some 5), .mv (.t 16), none⟩])
             (.reg (some []) [⟨(some 17), .load none (.t 4), none⟩,
               ⟨(some 18), .mv (.t 5), none⟩,
               ⟨(some 19), .faddr 1 (.t 2), none⟩,
               ⟨(some 20), .load none (.t 19), none⟩,
               ⟨(some 21), .len (.t 20), none⟩,
               ⟨(some 22), .mkslice 1 8 [(.int .i64 0)] (.t 21), none⟩,
               ⟨(some 23), .iaddr 1 (.t 17) (.t 18), none⟩,
               ⟨none, .store 1 (.t 23) (.t 22), none⟩])))
           (.reg none [⟨(some 24), .bin .add (.t 14) (.c (.int .i64 1)), none⟩,
             ⟨(some 14), .mv (.t 24), none⟩])))))))
     (.seq
      (.reg none [⟨(some 25), .faddr 1 (.t 2), none⟩,
        ⟨(some 26), .load none (.t 25), none⟩,
        ⟨(some 27), .call 56 [(.t 26)], none⟩,
        ⟨(some 6), .alloc [.nils], none⟩,
        ⟨none, .store 1 (.t 6) (.t 27), none⟩])
      (.seq
       (.reg none [⟨(some 7), .alloc [.nilf], none⟩])
       (.seq
        (.reg none [⟨(some 28), .mkfn 100 [] [(.t 2), (.t 6), (.t 3), (.t 4), (.t 7)], none⟩,
          ⟨none, .store 1 (.t 7) (.t 28), none⟩])
        (.reg (some []) [⟨(some 29), .load none (.t 7), none⟩,
          ⟨(some 30), .faddr 0 (.t 2), none⟩,
          ⟨(some 31), .load none (.t 30), none⟩,
          ⟨(some 32), .iaddr 1 (.t 31) (.c (.int .i64 0)), none⟩,
          ⟨(some 33), .load none (.t 32), none⟩,
          ⟨(some 34), .callv (.t 29) [(.c (.int .i64 0)), (.c (.int .i64 0)), (.t 33)], none⟩]))))))) }
theorem f80P : prepF C Try.f80 = some f80A := by kernel_rfl

/-- (congou/counts.table).family -/
def f82A : AFunc :=
{ nargs := 1, res := [.c 2 (some 2)], body :=
  (.seq
   (.reg none [⟨(some 2), .alloc [.nils, .nils], none⟩])
   (.seq
    (.reg none [⟨(some 6), .mv (.t 0), none⟩,
      ⟨(some 7), .call 71 [(.t 6)], none⟩,
      ⟨(some 5), .mv (.t 7), none⟩,
      ⟨(some 8), .extr (.t 5) 0, none⟩,
      ⟨(some 9), .extr (.t 5) 1, none⟩,
      ⟨(some 3), .mv (.t 8), none⟩,
      ⟨(some 4), .mv (.t 9), none⟩])
    (.seq
     (.reg none [⟨(some 10), .mv (.t 3), none⟩,
       ⟨(some 11), .mv (.t 4), none⟩,
       ⟨(some 12), .build [.nils, .nils] [(0, 1, (.t 10)), (1, 1, (.t 11))], none⟩,
       ⟨none, .store 2 (.t 2) (.t 12), none⟩])
     .ret))) }
theorem f82P : prepF C Try.f82 = some f82A := by kernel_rfl

/-- (congou/counts.table).clone -/
def f84A : AFunc :=
{ nargs := 1, res := [.t 2], body :=
  (.seq
   (.reg none [⟨(some 2), .mv (.c .nils), none⟩])
   (.seq
    (.reg none [⟨(some 3), .mv (.c .nils), none⟩])
    (.seq
     (.seq
      (.reg none [⟨(some 6), .mv (.t 0), none⟩,
        ⟨(some 7), .len (.t 6), none⟩,
        ⟨(some 8), .mv (.c (.int .i64 0)), none⟩])
      (.block 0
       (.loop
        (.seq
         (.reg none [⟨(some 9), .bin .lss (.t 8) (.t 7), none⟩])
         (.seq
          (.cond (.t 9)
           .skip
           (.exit 0))
          (.seq
           (.block 1
            (.seq
             (.reg none [⟨(some 10), .iaddr 1 (.t 6) (.t 8), none⟩,
               ⟨(some 11), .load none (.t 10), none⟩,
               ⟨(some 5), .mv (.t 11), none⟩])
             (.reg none [⟨(some 12), .mv (.t 3), none⟩,
               ⟨(some 13), .mv (.t 5), none⟩,
               ⟨(some 14), .call 56 [(.t 13)], none⟩,
               ⟨(some 15), .bslice [.nils] 1 1 [(0, (.t 14))], none⟩,
               ⟨(some 16), .append 1 24 (.t 12) (.t 15), none⟩,
               ⟨(some 3), .mv (.t 16), none⟩])))
           (.reg none [⟨(some 17), .bin .add (.t 8) (.c (.int .i64 1)), none⟩,
             ⟨(some 8), .mv (.t 17), none⟩])))))))
     (.seq
      (.reg none [⟨(some 18), .mv (.t 3), none⟩,
        ⟨(some 2), .mv (.t 18), none⟩])
      .ret)))) }
theorem f84P : prepF C Try.f84 = some f84A := by kernel_rfl

/-- cmp.Compare[int] -/
def f85A : AFunc :=
{ nargs := 2, res := [.t 4], body :=
  (.seq
   (.reg none [⟨(some 4), .mv (.c (.int .i64 0)), none⟩])
   (.seq
    (.reg none [⟨(some 7), .mv (.t 0), none⟩,
      ⟨(some 8), .call 102 [(.t 7)], none⟩,
      ⟨(some 5), .mv (.t 8), none⟩])
    (.seq
     (.reg none [⟨(some 9), .mv (.t 1), none⟩,
       ⟨(some 10), .call 102 [(.t 9)], none⟩,
       ⟨(some 6), .mv (.t 10), none⟩])
     (.seq
      (.seq
       (.reg none [⟨(some 11), .mv (.t 5), none⟩])
       (.cond (.t 11)
        (.seq
         (.seq
          (.reg none [⟨(some 12), .mv (.t 6), none⟩])
          (.cond (.t 12)
           (.seq
            (.reg none [⟨(some 4), .mv (.c (.int .i64 0)), none⟩])
            .ret)
           .skip))
         (.seq
          (.reg none [⟨(some 4), .mv (.c (.int .i64 (-1))), none⟩])
          .ret))
        .skip))
      (.seq
       (.seq
        (.reg none [⟨(some 13), .mv (.t 6), none⟩])
        (.cond (.t 13)
         (.seq
          (.reg none [⟨(some 4), .mv (.c (.int .i64 1)), none⟩])
          .ret)
         .skip))
       (.seq
        (.seq
         (.reg none [⟨(some 14), .mv (.t 0), none⟩,
           ⟨(some 15), .mv (.t 1), none⟩,
           ⟨(some 16), .bin .lss (.t 14) (.t 15), none⟩])
         (.cond (.t 16)
          (.seq
           (.reg none [⟨(some 4), .mv (.c (.int .i64 (-1))), none⟩])
           .ret)
          .skip))
        (.seq
         (.seq
          (.reg none [⟨(some 17), .mv (.t 0), none⟩,
            ⟨(some 18), .mv (.t 1), none⟩,
            ⟨(some 19), .bin .gtr (.t 17) (.t 18), none⟩])
          (.cond (.t 19)
           (.seq
            (.reg none [⟨(some 4), .mv (.c (.int .i64 1)), none⟩])
            .ret)
           .skip))
         (.seq
          (.reg none [⟨(some 4), .mv (.c (.int .i64 0)), none⟩])
          .ret)))))))) }
theorem f85P : prepF C Try.f85 = some f85A := by kernel_rfl

/-- congou/counts.both -/
def f90A : AFunc :=
{ nargs := 2, res := [.t 4], body :=
  (.seq
   (.reg none [⟨(some 4), .mv (.c (.b false)), none⟩])
   (.seq
    (.reg none [⟨(some 7), .mv (.t 0), none⟩,
      ⟨(some 8), .call 82 [(.t 7)], none⟩,
      ⟨(some 9), .mv (.t 1), none⟩,
      ⟨(some 10), .call 82 [(.t 9)], none⟩,
      ⟨(some 5), .alloc [.nils, .nils], none⟩,
      ⟨(some 6), .alloc [.nils, .nils], none⟩,
      ⟨none, .store 2 (.t 5) (.t 8), none⟩,
      ⟨none, .store 2 (.t 6) (.t 10), none⟩])
    (.seq
     (.reg none [⟨(some 11), .faddr 0 (.t 5), none⟩,
       ⟨(some 12), .load none (.t 11), none⟩,
       ⟨(some 13), .faddr 0 (.t 6), none⟩,
       ⟨(some 14), .load none (.t 13), none⟩,
       ⟨(some 15), .call 25 [(.t 12), (.t 14)], none⟩,
       ⟨(some 16), .mv (.t 15), none⟩,
       ⟨(some 17), .faddr 1 (.t 5), some (16, true)⟩,
       ⟨(some 18), .load none (.t 17), some (16, true)⟩,
       ⟨(some 19), .faddr 1 (.t 6), some (16, true)⟩,
       ⟨(some 20), .load none (.t 19), some (16, true)⟩,
       ⟨(some 21), .call 25 [(.t 18), (.t 20)], some (16, true)⟩,
       ⟨(some 22), .pick (.t 16) (.t 21) (.c (.b false)), none⟩,
       ⟨(some 4), .mv (.t 22), none⟩])
     .ret))) }
theorem f90P : prepF C Try.f90 = some f90A := by kernel_rfl

/-- (congou/counts.table).key -/
def f91A : AFunc :=
{ nargs := 1, res := [.c 2 (some 9)], body :=
  (.seq
   (.reg none [⟨(some 2), .alloc [(.int .i64 0), (.int .i64 0), (.int .i64 0), (.int .i64 0), (.int .i64 0), (.int .i64 0), (.int .i64 0), (.int .i64 0), (.int .i64 0)], none⟩])
   (.seq
    (.reg none [⟨(some 3), .alloc [(.int .i64 0), (.int .i64 0), (.int .i64 0), (.int .i64 0), (.int .i64 0), (.int .i64 0), (.int .i64 0), (.int .i64 0), (.int .i64 0)], none⟩])
    (.seq
     (.seq
      (.reg none [⟨(some 6), .mv (.t 0), none⟩,
        ⟨(some 7), .len (.t 6), none⟩,
        ⟨(some 8), .mv (.c (.int .i64 0)), none⟩])
      (.block 0
       (.loop
        (.seq
         (.reg none [⟨(some 9), .bin .lss (.t 8) (.t 7), none⟩])
         (.seq
          (.cond (.t 9)
           .skip
           (.exit 0))
          (.seq
           (.block 1
            (.seq
             (.reg none [⟨(some 10), .mv (.t 8), none⟩,
               ⟨(some 11), .iaddr 1 (.t 6) (.t 8), none⟩,
               ⟨(some 12), .load none (.t 11), none⟩,
               ⟨(some 4), .mv (.t 10), none⟩,
               ⟨(some 5), .mv (.t 12), none⟩])
             (.reg none [⟨(some 13), .mv (.t 4), none⟩,
               ⟨(some 14), .bin .mul (.c (.int .i64 3)) (.t 13), none⟩,
               ⟨(some 15), .slarr 9 1 (.t 3) (some (.t 14)) none, none⟩,
               ⟨(some 16), .mv (.t 5), none⟩,
               ⟨(some 17), .copy 1 (.t 15) (.t 16), none⟩])))
           (.reg none [⟨(some 18), .bin .add (.t 8) (.c (.int .i64 1)), none⟩,
             ⟨(some 8), .mv (.t 18), none⟩])))))))
     (.seq
      (.reg none [⟨(some 19), .load (some 9) (.t 3), none⟩,
        ⟨none, .store 9 (.t 2) (.t 19), none⟩])
      .ret)))) }
theorem f91P : prepF C Try.f91 = some f91A := by kernel_rfl

/-- congou/counts.compare -/
def f92A : AFunc :=
{ nargs := 2, res := [.t 4], body :=
  (.seq
   (.reg none [⟨(some 4), .mv (.c (.int .i64 0)), none⟩])
   (.seq
    (.reg none [⟨(some 5), .mv (.t 0), none⟩,
      ⟨(some 6), .mv (.t 1), none⟩,
      ⟨(some 7), .call 57 [(.t 5), (.t 6), (.c (.fn 59 [] []))], none⟩,
      ⟨(some 4), .mv (.t 7), none⟩])
    .ret)) }
theorem f92P : prepF C Try.f92 = some f92A := by kernel_rfl

/-- (congou/counts.table).near -/
def f93A : AFunc :=
{ nargs := 1, res := [.t 2], body :=
  (.seq
   (.reg none [⟨(some 2), .mv (.c .nils), none⟩])
   (.seq
    (.reg none [⟨(some 3), .mv (.c .nils), none⟩])
    (.seq
     (.seq
      (.reg none [⟨(some 10), .mv (.t 0), none⟩,
        ⟨(some 11), .len (.t 10), none⟩,
        ⟨(some 12), .mv (.c (.int .i64 0)), none⟩])
      (.block 0
       (.loop
        (.seq
         (.reg none [⟨(some 13), .bin .lss (.t 12) (.t 11), none⟩])
         (.seq
          (.cond (.t 13)
           .skip
           (.exit 0))
          (.seq
           (.block 1
            (.seq
             (.reg none [⟨(some 14), .mv (.t 12), none⟩,
               ⟨(some 4), .mv (.t 14), none⟩])
             (.seq
              (.reg none [⟨(some 15), .mv (.t 0), none⟩,
                ⟨(some 16), .len (.t 15), none⟩,
                ⟨(some 17), .mv (.c (.int .i64 0)), none⟩])
              (.block 2
               (.loop
                (.seq
                 (.reg none [⟨(some 18), .bin .lss (.t 17) (.t 16), none⟩])
                 (.seq
                  (.cond (.t 18)
                   .skip
                   (.exit 2))
                  (.seq
                   (.block 3
                    (.seq
                     (.reg none [⟨(some 19), .mv (.t 17), none⟩,
                       ⟨(some 5), .mv (.t 19), none⟩])
                     (.seq
                      (.reg none [⟨(some 20), .mv (.t 0), none⟩,
                        ⟨(some 21), .iaddr 1 (.t 20) (.c (.int .i64 0)), none⟩,
                        ⟨(some 22), .load none (.t 21), none⟩,
                        ⟨(some 23), .len (.t 22), none⟩,
                        ⟨(some 24), .mv (.c (.int .i64 0)), none⟩])
                      (.block 4
                       (.loop
                        (.seq
                         (.reg none [⟨(some 25), .bin .lss (.t 24) (.t 23), none⟩])
                         (.seq
                          (.cond (.t 25)
                           .skip
                           (.exit 4))
                          (.seq
                           (.block 5
                            (.seq
                             (.reg none [⟨(some 26), .mv (.t 24), none⟩,
                               ⟨(some 6), .mv (.t 26), none⟩])
                             (.seq
                              (.reg none [⟨(some 27), .mv (.t 0), none⟩,
                                ⟨(some 28), .iaddr 1 (.t 27) (.c (.int .i64 0)), none⟩,
                                ⟨(some 29), .load none (.t 28), none⟩,
                                ⟨(some 30), .len (.t 29), none⟩,
                                ⟨(some 31), .mv (.c (.int .i64 0)), none⟩])
                              (.block 6
                               (.loop
                                (.seq
                                 (.reg none [⟨(some 32), .bin .lss (.t 31) (.t 30), none⟩])
                                 (.seq
                                  (.cond (.t 32)
                                   .skip
                                   (.exit 6))
                                  (.seq
                                   (.block 7
                                    (.seq
                                     (.reg none [⟨(some 33), .mv (.t 31), none⟩,
                                       ⟨(some 7), .mv (.t 33), none⟩])
                                     (.seq
                                      (.seq
                                       (.reg none [⟨(some 34), .mv (.t 4), none⟩,
                                         ⟨(some 35), .mv (.t 5), none⟩,
                                         ⟨(some 36), .bin .eql (.t 34) (.t 35), none⟩,
                                         ⟨(some 37), .mv (.t 36), none⟩,
                                         ⟨(some 38), .mv (.t 6), some (37, false)⟩,
                                         ⟨(some 39), .mv (.t 7), some (37, false)⟩,
                                         ⟨(some 40), .bin .eql (.t 38) (.t 39), some (37, false)⟩,
                                         ⟨(some 41), .pick (.t 37) (.c (.b true)) (.t 40), none⟩])
                                       (.cond (.t 41)
                                        (.exit 7)
                                        .skip))
                                      (.seq
                                       (.reg none [⟨(some 43), .mv (.t 0), none⟩,
                                         ⟨(some 44), .mv (.t 4), none⟩,
                                         ⟨(some 45), .mv (.t 5), none⟩,
                                         ⟨(some 46), .mv (.t 6), none⟩,
                                         ⟨(some 47), .mv (.t 7), none⟩,
                                         ⟨(some 48), .call 74 [(.t 43), (.t 44), (.t 45), (.t 46), (.t 47)], none⟩,
                                         ⟨(some 42), .mv (.t 48), none⟩,
                                         ⟨(some 49), .extr (.t 42) 0, none⟩,
                                         ⟨(some 50), .extr (.t 42) 1, none⟩,
                                         ⟨(some 8), .mv (.t 49), none⟩,
                                         ⟨(some 9), .mv (.t 50), none⟩])
                                       (.seq
                                        (.reg none [⟨(some 51), .mv (.t 9), none⟩])
                                        (.cond (.t 51)
                                         (.reg none [⟨(some 52), .mv (.t 3), none⟩,
                                           ⟨(some 53), .mv (.t 8), none⟩,
                                           ⟨(some 54), .bslice [.nils] 1 1 [(0, (.t 53))], none⟩,
                                           ⟨(some 55), .append 1 24 (.t 52) (.t 54), none⟩,
                                           ⟨(some 3), .mv (.t 55), none⟩])
                                         .skip))))))
                                   (.reg none [⟨(some 56), .bin .add (.t 31) (.c (.int .i64 1)), none⟩,
                                     ⟨(some 31), .mv (.t 56), none⟩])))))))))
                           (.reg none [⟨(some 57), .bin .add (.t 24) (.c (.int .i64 1)), none⟩,
                             ⟨(some 24), .mv (.t 57), none⟩])))))))))
                   (.reg none [⟨(some 58), .bin .add (.t 17) (.c (.int .i64 1)), none⟩,
                     ⟨(some 17), .mv (.t 58), none⟩])))))))))
           (.reg none [⟨(some 59), .bin .add (.t 12) (.c (.int .i64 1)), none⟩,
             ⟨(some 12), .mv (.t 59), none⟩])))))))
     (.seq
      (.reg none [⟨(some 60), .mv (.t 3), none⟩,
        ⟨(some 2), .mv (.t 60), none⟩])
      .ret)))) }
theorem f93P : prepF C Try.f93 = some f93A := by kernel_rfl

/-- slices.ContainsFunc[[]congou/counts.table,congou/counts.table] -/
def f94A : AFunc :=
{ nargs := 2, res := [.t 4], body :=
  (.seq
   (.reg none [⟨(some 4), .mv (.c (.b false)), none⟩])
   (.seq
    (.reg none [⟨(some 5), .mv (.t 0), none⟩,
      ⟨(some 6), .mv (.t 1), none⟩,
      ⟨(some 7), .call 103 [(.t 5), (.t 6)], none⟩,
      ⟨(some 8), .bin .geq (.t 7) (.c (.int .i64 0)), none⟩,
      ⟨(some 4), .mv (.t 8), none⟩])
    .ret)) }
theorem f94P : prepF C Try.f94 = some f94A := by kernel_rfl

/-- congou/counts.CheckPath$1 -/
def f95A : AFunc :=
{ nargs := 2, res := [.t 3], body :=
  (.seq
   (.reg none [⟨(some 3), .mv (.c (.b false)), none⟩])
   (.seq
    (.reg none [⟨(some 4), .load none (.t 1), none⟩,
      ⟨(some 5), .mv (.t 0), none⟩,
      ⟨(some 6), .call 92 [(.t 4), (.t 5)], none⟩,
      ⟨(some 7), .bin .eql (.t 6) (.c (.int .i64 0)), none⟩,
      ⟨(some 3), .mv (.t 7), none⟩])
    .ret)) }
theorem f95P : prepF C Try.f95 = some f95A := by kernel_rfl

/-- slices.IndexFunc[[][][]int,[][]int] -/
def f98A : AFunc :=
{ nargs := 2, res := [.t 4], body :=
  (.seq
   (.reg none [⟨(some 4), .mv (.c (.int .i64 0)), none⟩])
   (.seq
    (.seq
     (.reg none [⟨(some 6), .mv (.t 0), none⟩,
       ⟨(some 7), .len (.t 6), none⟩,
       ⟨(some 8), .mv (.c (.int .i64 0)), none⟩])
     (.block 0
      (.loop
       (.seq
        (.reg none [⟨(some 9), .bin .lss (.t 8) (.t 7), none⟩])
        (.seq
         (.cond (.t 9)
          .skip
          (.exit 0))
         (.seq
          (.block 1
           (.seq
            (.reg none [⟨(some 10), .mv (.t 8), none⟩,
              ⟨(some 5), .mv (.t 10), none⟩])
            (.seq
             (.reg none [⟨(some 11), .mv (.t 1), none⟩,
               ⟨(some 12), .mv (.t 0), none⟩,
               ⟨(some 13), .mv (.t 5), none⟩,
               ⟨(some 14), .iaddr 1 (.t 12) (.t 13), none⟩,
               ⟨(some 15), .load none (.t 14), none⟩,
               ⟨(some 16), .callv (.t 11) [(.t 15)], none⟩])
             (.cond (.t 16)
              (.seq
               (.reg none [⟨(some 17), .mv (.t 5), none⟩,
                 ⟨(some 4), .mv (.t 17), none⟩])
               .ret)
              .skip))))
          (.reg none [⟨(some 18), .bin .add (.t 8) (.c (.int .i64 1)), none⟩,
            ⟨(some 8), .mv (.t 18), none⟩])))))))
    (.seq
     (.reg none [⟨(some 4), .mv (.c (.int .i64 (-1))), none⟩])
     .ret))) }
theorem f98P : prepF C Try.f98 = some f98A := by kernel_rfl

/-- (congou/counts.margins).all$1 -/
def f100A : AFunc :=
{ nargs := 8, res := [.t 11], body :=
  (.seq
   (.reg none [⟨(some 11), .mv (.c (.b false)), none⟩])
   (.seq
    (.block 0
     (.seq
      (.reg none [⟨(some 15), .mv (.t 0), none⟩,
        ⟨(some 16), .faddr 0 (.t 3), none⟩,
        ⟨(some 17), .load none (.t 16), none⟩,
        ⟨(some 18), .len (.t 17), none⟩,
        ⟨(some 19), .bin .eql (.t 15) (.t 18), none⟩,
        ⟨(some 14), .mv (.t 19), none⟩])
      (.cond (.t 14)
       (.seq
        (.reg (some []) [⟨(some 20), .load none (.t 4), none⟩,
          ⟨(some 21), .call 101 [(.t 20)], none⟩,
          ⟨(some 22), .bin .gtr (.t 21) (.c (.int .i64 0)), none⟩,
          ⟨(some 23), .mv (.t 22), none⟩,
          ⟨(some 24), .load none (.t 5), some (23, false)⟩,
          ⟨(some 25), .load none (.t 6), some (23, false)⟩,
          ⟨(some 26), .call 84 [(.t 25)], some (23, false)⟩,
          ⟨(some 27), .callv (.t 24) [(.t 26)], some (23, false)⟩,
          ⟨(some 28), .pick (.t 23) (.c (.b true)) (.t 27), none⟩,
          ⟨(some 11), .mv (.t 28), none⟩])
        .ret)
       (.seq
        (.reg none [⟨(some 30), .mv (.t 1), none⟩,
          ⟨(some 31), .faddr 1 (.t 3), none⟩,
          ⟨(some 32), .load none (.t 31), none⟩,
          ⟨(some 33), .len (.t 32), none⟩,
          ⟨(some 34), .bin .eql (.t 30) (.t 33), none⟩,
          ⟨(some 29), .mv (.t 34), none⟩])
        (.cond (.t 29)
         (.seq
          (.seq
           (.reg none [⟨(some 35), .mv (.t 2), none⟩,
             ⟨(some 36), .bin .gtr (.t 35) (.c (.int .i64 0)), none⟩])
           (.cond (.t 36)
            (.seq
             (.reg none [⟨(some 11), .mv (.c (.b true)), none⟩])
             .ret)
            .skip))
          (.seq
           (.seq
            (.reg none [⟨(some 37), .mv (.t 0), none⟩,
              ⟨(some 38), .bin .add (.t 37) (.c (.int .i64 1)), none⟩,
              ⟨(some 39), .faddr 0 (.t 3), none⟩,
              ⟨(some 40), .load none (.t 39), none⟩,
              ⟨(some 41), .len (.t 40), none⟩,
              ⟨(some 42), .bin .eql (.t 38) (.t 41), none⟩])
            (.cond (.t 42)
             (.seq
              (.reg none [⟨(some 43), .load none (.t 7), none⟩,
                ⟨(some 44), .mv (.t 0), none⟩,
                ⟨(some 45), .bin .add (.t 44) (.c (.int .i64 1)), none⟩,
                ⟨(some 46), .callv (.t 43) [(.t 45), (.c (.int .i64 0)), (.c (.int .i64 0))], none⟩,
                ⟨(some 11), .mv (.t 46), none⟩])
              .ret)
             .skip))
           (.seq
            (.reg (some []) [⟨(some 47), .load none (.t 7), none⟩,
              ⟨(some 48), .mv (.t 0), none⟩,
              ⟨(some 49), .bin .add (.t 48) (.c (.int .i64 1)), none⟩,
              ⟨(some 50), .faddr 0 (.t 3), none⟩,
              ⟨(some 51), .load none (.t 50), none⟩,
              ⟨(some 52), .mv (.t 0), none⟩,
              ⟨(some 53), .bin .add (.t 52) (.c (.int .i64 1)), none⟩,
              ⟨(some 54), .iaddr 1 (.t 51) (.t 53), none⟩,
              ⟨(some 55), .load none (.t 54), none⟩,
              ⟨(some 56), .callv (.t 47) [(.t 49), (.c (.int .i64 0)), (.t 55)], none⟩,
              ⟨(some 11), .mv (.t 56), none⟩])
            .ret)))
         .skip)))))
    (.seq
     (.seq
      (.reg none [⟨(some 57), .mv (.t 2), none⟩,
        ⟨(some 58), .load none (.t 4), none⟩,
        ⟨(some 59), .mv (.t 1), none⟩,
        ⟨(some 60), .iaddr 1 (.t 58) (.t 59), none⟩,
        ⟨(some 61), .load none (.t 60), none⟩,
        ⟨(some 62), .mn [(.t 57), (.t 61)], none⟩,
        ⟨(some 63), .bin .add (.t 62) (.c (.int .i64 1)), none⟩,
        ⟨(some 64), .mv (.c (.int .i64 0)), none⟩])
      (.block 1
       (.loop
        (.seq
         (.reg none [⟨(some 65), .bin .lss (.t 64) (.t 63), none⟩])
         (.seq
          (.cond (.t 65)
           .skip
           (.exit 1))
          (.seq
           (.block 2
            (.seq
             (.reg none [⟨(some 66), .mv (.t 64), none⟩,
               ⟨(some 12), .mv (.t 66), none⟩])
             (.seq
              (.reg none [⟨(some 67), .load none (.t 6), none⟩,
                ⟨(some 68), .mv (.t 0), none⟩,
                ⟨(some 69), .iaddr 1 (.t 67) (.t 68), none⟩,
                ⟨(some 70), .load none (.t 69), none⟩,
                ⟨(some 71), .mv (.t 1), none⟩,
                ⟨(some 72), .mv (.t 12), none⟩,
                ⟨(some 73), .iaddr 1 (.t 70) (.t 71), none⟩,
                ⟨none, .store 1 (.t 73) (.t 72), none⟩])
              (.seq
               (.reg none [⟨(some 74), .load none (.t 4), none⟩,
                 ⟨(some 75), .mv (.t 1), none⟩,
                 ⟨(some 76), .iaddr 1 (.t 74) (.t 75), none⟩,
                 ⟨(some 77), .load none (.t 76), none⟩,
                 ⟨(some 78), .mv (.t 12), none⟩,
                 ⟨(some 79), .bin .sub (.t 77) (.t 78), none⟩,
                 ⟨(some 80), .iaddr 1 (.t 74) (.t 75), none⟩,
                 ⟨none, .store 1 (.t 80) (.t 79), none⟩])
               (.seq
                (.reg none [⟨(some 81), .load none (.t 7), none⟩,
                  ⟨(some 82), .mv (.t 0), none⟩,
                  ⟨(some 83), .mv (.t 1), none⟩,
                  ⟨(some 84), .bin .add (.t 83) (.c (.int .i64 1)), none⟩,
                  ⟨(some 85), .mv (.t 2), none⟩,
                  ⟨(some 86), .mv (.t 12), none⟩,
                  ⟨(some 87), .bin .sub (.t 85) (.t 86), none⟩,
                  ⟨(some 88), .callv (.t 81) [(.t 82), (.t 84), (.t 87)], none⟩,
                  ⟨(some 13), .mv (.t 88), none⟩])
                (.seq
                 (.reg none [⟨(some 89), .load none (.t 4), none⟩,
                   ⟨(some 90), .mv (.t 1), none⟩,
                   ⟨(some 91), .iaddr 1 (.t 89) (.t 90), none⟩,
                   ⟨(some 92), .load none (.t 91), none⟩,
                   ⟨(some 93), .mv (.t 12), none⟩,
                   ⟨(some 94), .bin .add (.t 92) (.t 93), none⟩,
                   ⟨(some 95), .iaddr 1 (.t 89) (.t 90), none⟩,
                   ⟨none, .store 1 (.t 95) (.t 94), none⟩])
                 (.seq
                  (.reg none [⟨(some 96), .mv (.t 13), none⟩,
                    ⟨(some 97), .un .not (.t 96), none⟩])
                  (.cond (.t 97)
                   (.seq
                    (.reg none [⟨(some 11), .mv (.c (.b false)), none⟩])
                    .ret)
                   .skip))))))))
           (.reg none [⟨(some 98), .bin .add (.t 64) (.c (.int .i64 1)), none⟩,
             ⟨(some 64), .mv (.t 98), none⟩])))))))
     (.seq
      (.reg none [⟨(some 11), .mv (.c (.b true)), none⟩])
      .ret)))) }
theorem f100P : prepF C Try.f100 = some f100A := by kernel_rfl

/-- slices.Max[[]int,int] -/
def f101A : AFunc :=
{ nargs := 1, res := [.t 2], body :=
  (.seq
   (.reg none [⟨(some 2), .mv (.c (.int .i64 0)), none⟩])
   (.seq
    (.seq
     (.reg none [⟨(some 5), .mv (.t 0), none⟩,
       ⟨(some 6), .len (.t 5), none⟩,
       ⟨(some 7), .bin .lss (.t 6) (.c (.int .i64 1)), none⟩])
     (.cond (.t 7)
      (.reg none [⟨(some 8), .bad, none⟩,
        ⟨none, .bad, none⟩])
      .skip))
    (.seq
     (.reg none [⟨(some 9), .mv (.t 0), none⟩,
       ⟨(some 10), .iaddr 1 (.t 9) (.c (.int .i64 0)), none⟩,
       ⟨(some 11), .load none (.t 10), none⟩,
       ⟨(some 3), .mv (.t 11), none⟩])
     (.seq
      (.seq
       (.reg none [⟨(some 4), .mv (.c (.int .i64 1)), none⟩])
       (.block 0
        (.loop
         (.seq
          (.seq
           (.reg none [⟨(some 12), .mv (.t 4), none⟩,
             ⟨(some 13), .mv (.t 0), none⟩,
             ⟨(some 14), .len (.t 13), none⟩,
             ⟨(some 15), .bin .lss (.t 12) (.t 14), none⟩])
           (.cond (.t 15)
            .skip
            (.exit 0)))
          (.seq
           (.block 1
            (.reg none [⟨(some 18), .mv (.t 3), none⟩,
              ⟨(some 19), .mv (.t 0), none⟩,
              ⟨(some 20), .mv (.t 4), none⟩,
              ⟨(some 21), .iaddr 1 (.t 19) (.t 20), none⟩,
              ⟨(some 22), .load none (.t 21), none⟩,
              ⟨(some 23), .mx [(.t 18), (.t 22)], none⟩,
              ⟨(some 3), .mv (.t 23), none⟩]))
           (.reg none [⟨(some 16), .mv (.t 4), none⟩,
             ⟨(some 17), .bin .add (.t 16) (.c (.int .i64 1)), none⟩,
             ⟨(some 4), .mv (.t 17), none⟩]))))))
      (.seq
       (.reg none [⟨(some 24), .mv (.t 3), none⟩,
         ⟨(some 2), .mv (.t 24), none⟩])
       .ret))))) }
theorem f101P : prepF C Try.f101 = some f101A := by kernel_rfl

/-- cmp.isNaN[int] -/
def f102A : AFunc :=
{ nargs := 1, res := [.t 2], body :=
  (.seq
   (.reg none [⟨(some 2), .mv (.c (.b false)), none⟩])
   (.seq
    (.reg none [⟨(some 3), .mv (.t 0), none⟩,
      ⟨(some 4), .mv (.t 0), none⟩,
      ⟨(some 5), .bin .neq (.t 3) (.t 4), none⟩,
      ⟨(some 2), .mv (.t 5), none⟩])
    .ret)) }
theorem f102P : prepF C Try.f102 = some f102A := by kernel_rfl

/-- slices.IndexFunc[[]congou/counts.table,congou/counts.table] -/
def f103A : AFunc :=
{ nargs := 2, res := [.t 4], body :=
  (.seq
   (.reg none [⟨(some 4), .mv (.c (.int .i64 0)), none⟩])
   (.seq
    (.seq
     (.reg none [⟨(some 6), .mv (.t 0), none⟩,
       ⟨(some 7), .len (.t 6), none⟩,
       ⟨(some 8), .mv (.c (.int .i64 0)), none⟩])
     (.block 0
      (.loop
       (.seq
        (.reg none [⟨(some 9), .bin .lss (.t 8) (.t 7), none⟩])
        (.seq
         (.cond (.t 9)
          .skip
          (.exit 0))
         (.seq
          (.block 1
           (.seq
            (.reg none [⟨(some 10), .mv (.t 8), none⟩,
              ⟨(some 5), .mv (.t 10), none⟩])
            (.seq
             (.reg none [⟨(some 11), .mv (.t 1), none⟩,
               ⟨(some 12), .mv (.t 0), none⟩,
               ⟨(some 13), .mv (.t 5), none⟩,
               ⟨(some 14), .iaddr 1 (.t 12) (.t 13), none⟩,
               ⟨(some 15), .load none (.t 14), none⟩,
               ⟨(some 16), .callv (.t 11) [(.t 15)], none⟩])
             (.cond (.t 16)
              (.seq
               (.reg none [⟨(some 17), .mv (.t 5), none⟩,
                 ⟨(some 4), .mv (.t 17), none⟩])
               .ret)
              .skip))))
          (.reg none [⟨(some 18), .bin .add (.t 8) (.c (.int .i64 1)), none⟩,
            ⟨(some 8), .mv (.t 18), none⟩])))))))
    (.seq
     (.reg none [⟨(some 4), .mv (.c (.int .i64 (-1))), none⟩])
     .ret))) }
theorem f103P : prepF C Try.f103 = some f103A := by kernel_rfl

end Go.Proofs.Ytflekaacffdakaa
