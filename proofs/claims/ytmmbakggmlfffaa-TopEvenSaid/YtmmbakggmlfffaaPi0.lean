/- The abstract forms of the functions that are needed, each checked against the translation. No condition. -/
import Derived.Test.YtmmbakggmlfffaaAm1
import Derived.Test.YtmmbakggmlfffaaProg
namespace Go.Proofs.Ytmmbakggmlfffaa
open Go Go.AM Go.Proofs

/-- the seat's program; the types whose comparison is taken; the functions that may write to what is older -/
def kd : Nat → Kd := fun f => if [37, 49, 56, 62, 63].contains f then .wrt else if [8, 17].contains f then .closed else .ro
noncomputable def C : Cfg := { P := Try.prog, eqT := fun t => if t == 33 then some 2 else none, kd := kd }
/-- congou/congoutop.TopEven -/
def f4A : AFunc :=
{ nargs := 3, res := [.t 6], body :=
  (.seq
   (.reg none [⟨(some 3), .box (.t 0), none⟩,
     ⟨(some 6), .mv (.c (.b false)), none⟩])
   (.seq
    (.reg none [⟨(some 25), .load (some 2) (.t 3), none⟩,
      ⟨(some 26), .call 14 [(.t 25)], none⟩,
      ⟨(some 27), .call 13 [(.t 26), (.c (.int .i64 2))], none⟩,
      ⟨(some 24), .mv (.t 27), none⟩,
      ⟨(some 28), .extr (.t 24) 0, none⟩,
      ⟨(some 29), .extr (.t 24) 1, none⟩,
      ⟨(some 7), .mv (.t 28), none⟩,
      ⟨(some 8), .mv (.t 29), none⟩])
    (.seq
     (.seq
      (.reg none [⟨(some 30), .load (some 2) (.t 3), none⟩,
        ⟨(some 31), .call 15 [(.t 30)], none⟩,
        ⟨(some 32), .un .not (.t 31), none⟩,
        ⟨(some 33), .mv (.t 32), none⟩,
        ⟨(some 34), .load (some 2) (.t 3), some (33, false)⟩,
        ⟨(some 35), .call 16 [(.t 34)], some (33, false)⟩,
        ⟨(some 36), .bin .lss (.t 35) (.c (.int .i64 2)), some (33, false)⟩,
        ⟨(some 37), .pick (.t 33) (.c (.b true)) (.t 36), none⟩,
        ⟨(some 38), .mv (.t 37), none⟩,
        ⟨(some 39), .faddr 0 (.t 3), some (38, false)⟩,
        ⟨(some 40), .load none (.t 39), some (38, false)⟩,
        ⟨(some 41), .bin .gtr (.t 40) (.c (.int .i64 3)), some (38, false)⟩,
        ⟨(some 42), .pick (.t 38) (.c (.b true)) (.t 41), none⟩])
      (.cond (.t 42)
       (.seq
        (.reg none [⟨(some 43), .mv (.t 8), none⟩,
          ⟨(some 44), .bin .eql (.t 43) (.c (.int .i64 0)), none⟩,
          ⟨(some 45), .mv (.t 44), none⟩,
          ⟨(some 46), .mv (.t 8), some (45, false)⟩,
          ⟨(some 47), .bin .eql (.t 46) (.c (.int .i64 2)), some (45, false)⟩,
          ⟨(some 48), .pick (.t 45) (.c (.b true)) (.t 47), none⟩,
          ⟨(some 49), .mv (.t 48), none⟩,
          ⟨(some 50), .mv (.t 8), some (49, false)⟩,
          ⟨(some 51), .bin .eql (.t 50) (.c (.int .i64 4)), some (49, false)⟩,
          ⟨(some 52), .pick (.t 49) (.c (.b true)) (.t 51), none⟩,
          ⟨(some 53), .mv (.t 52), none⟩,
          ⟨(some 54), .call 17 [], some (53, true)⟩,
          ⟨(some 55), .pick (.t 53) (.t 54) (.c (.b false)), none⟩,
          ⟨(some 6), .mv (.t 55), none⟩])
        .ret)
       .skip))
     (.seq
      (.reg (some []) [⟨(some 56), .mv (.t 1), none⟩,
        ⟨(some 57), .conv .u64 (.t 56), none⟩,
        ⟨(some 58), .load (some 2) (.t 3), none⟩,
        ⟨(some 59), .call 16 [(.t 58)], none⟩,
        ⟨(some 60), .conv .u64 (.t 59), none⟩,
        ⟨(some 61), .bin .rem (.t 57) (.t 60), none⟩,
        ⟨(some 62), .conv .i64 (.t 61), none⟩,
        ⟨(some 63), .mv (.t 2), none⟩,
        ⟨(some 64), .conv .u64 (.t 63), none⟩,
        ⟨(some 65), .load (some 2) (.t 3), none⟩,
        ⟨(some 66), .call 16 [(.t 65)], none⟩,
        ⟨(some 67), .conv .u64 (.t 66), none⟩,
        ⟨(some 68), .bin .rem (.t 64) (.t 67), none⟩,
        ⟨(some 69), .conv .i64 (.t 68), none⟩,
        ⟨(some 1), .mv (.t 62), none⟩,
        ⟨(some 2), .mv (.t 69), none⟩])
      (.seq
       (.seq
        (.reg none [⟨(some 70), .mv (.t 1), none⟩,
          ⟨(some 71), .mv (.t 2), none⟩,
          ⟨(some 72), .bin .eql (.t 70) (.t 71), none⟩])
        (.cond (.t 72)
         (.seq
          (.reg none [⟨(some 73), .call 17 [], none⟩,
            ⟨(some 6), .mv (.t 73), none⟩])
          .ret)
         .skip))
       (.seq
        (.reg none [⟨(some 74), .faddr 0 (.t 3), none⟩,
          ⟨(some 75), .load none (.t 74), none⟩,
          ⟨(some 76), .mkslice 1 24 [.nils] (.t 75), none⟩,
          ⟨(some 9), .mv (.t 76), none⟩])
        (.seq
         (.seq
          (.reg none [⟨(some 77), .mv (.t 9), none⟩,
            ⟨(some 78), .len (.t 77), none⟩,
            ⟨(some 79), .mv (.c (.int .i64 0)), none⟩])
          (.block 0
           (.loop
            (.seq
             (.reg none [⟨(some 80), .bin .lss (.t 79) (.t 78), none⟩])
             (.seq
              (.cond (.t 80)
               .skip
               (.exit 0))
              (.seq
               (.block 1
                (.seq
                 (.reg none [⟨(some 81), .mv (.t 79), none⟩,
                   ⟨(some 10), .mv (.t 81), none⟩])
                 (.reg none [⟨(some 82), .mv (.t 9), none⟩,
                   ⟨(some 83), .mv (.t 10), none⟩,
                   ⟨(some 84), .faddr 0 (.t 3), none⟩,
                   ⟨(some 85), .load none (.t 84), none⟩,
                   ⟨(some 86), .mkslice 1 8 [(.int .i64 0)] (.t 85), none⟩,
                   ⟨(some 87), .iaddr 1 (.t 82) (.t 83), none⟩,
                   ⟨none, .store 1 (.t 87) (.t 86), none⟩])))
               (.reg none [⟨(some 88), .bin .add (.t 79) (.c (.int .i64 1)), none⟩,
                 ⟨(some 79), .mv (.t 88), none⟩])))))))
         (.seq
          (.seq
           (.reg none [⟨(some 89), .faddr 1 (.t 3), none⟩,
             ⟨(some 90), .load none (.t 89), none⟩,
             ⟨(some 91), .len (.t 90), none⟩,
             ⟨(some 92), .mv (.c (.int .i64 0)), none⟩])
           (.block 2
            (.loop
             (.seq
              (.reg none [⟨(some 93), .bin .lss (.t 92) (.t 91), none⟩])
              (.seq
               (.cond (.t 93)
                .skip
                (.exit 2))
               (.seq
                (.block 3
                 (.seq
                  (.reg none [⟨(some 94), .iaddr 1 (.t 90) (.t 92), none⟩,
                    ⟨(some 95), .load none (.t 94), none⟩,
                    ⟨(some 12), .mv (.t 95), none⟩])
                  (.reg (some []) [⟨(some 96), .mv (.t 9), none⟩,
                    ⟨(some 97), .mv (.t 12), none⟩,
                    ⟨(some 98), .mv (.t 1), none⟩,
                    ⟨(some 99), .iaddr 1 (.t 97) (.t 98), none⟩,
                    ⟨(some 100), .load none (.t 99), none⟩,
                    ⟨(some 101), .iaddr 1 (.t 96) (.t 100), none⟩,
                    ⟨(some 102), .load none (.t 101), none⟩,
                    ⟨(some 103), .mv (.t 12), none⟩,
                    ⟨(some 104), .mv (.t 2), none⟩,
                    ⟨(some 105), .iaddr 1 (.t 103) (.t 104), none⟩,
                    ⟨(some 106), .load none (.t 105), none⟩,
                    ⟨(some 107), .iaddr 1 (.t 102) (.t 106), none⟩,
                    ⟨(some 108), .load none (.t 107), none⟩,
                    ⟨(some 109), .bin .add (.t 108) (.c (.int .i64 1)), none⟩,
                    ⟨(some 110), .iaddr 1 (.t 102) (.t 106), none⟩,
                    ⟨none, .store 1 (.t 110) (.t 109), none⟩])))
                (.reg none [⟨(some 111), .bin .add (.t 92) (.c (.int .i64 1)), none⟩,
                  ⟨(some 92), .mv (.t 111), none⟩])))))))
          (.seq
           (.seq
            (.reg none [⟨(some 112), .mv (.t 8), none⟩,
              ⟨(some 113), .bin .neq (.t 112) (.c (.int .i64 0)), none⟩])
            (.cond (.t 113)
             (.seq
              (.reg none [⟨(some 114), .mv (.t 8), none⟩,
                ⟨(some 115), .bin .eql (.t 114) (.c (.int .i64 4)), none⟩,
                ⟨(some 116), .mv (.t 115), none⟩,
                ⟨(some 117), .call 17 [], some (116, true)⟩,
                ⟨(some 118), .pick (.t 116) (.t 117) (.c (.b false)), none⟩,
                ⟨(some 6), .mv (.t 118), none⟩])
              .ret)
             .skip))
           (.seq
            (.seq
             (.reg none [⟨(some 119), .mv (.t 9), none⟩,
               ⟨(some 120), .len (.t 119), none⟩,
               ⟨(some 121), .mv (.c (.int .i64 0)), none⟩])
             (.block 4
              (.loop
               (.seq
                (.reg none [⟨(some 122), .bin .lss (.t 121) (.t 120), none⟩])
                (.seq
                 (.cond (.t 122)
                  .skip
                  (.exit 4))
                 (.seq
                  (.block 5
                   (.seq
                    (.reg none [⟨(some 123), .iaddr 1 (.t 119) (.t 121), none⟩,
                      ⟨(some 124), .load none (.t 123), none⟩,
                      ⟨(some 14), .mv (.t 124), none⟩])
                    (.seq
                     (.reg none [⟨(some 125), .mv (.t 14), none⟩,
                       ⟨(some 126), .len (.t 125), none⟩,
                       ⟨(some 127), .mv (.c (.int .i64 0)), none⟩])
                     (.block 6
                      (.loop
                       (.seq
                        (.reg none [⟨(some 128), .bin .lss (.t 127) (.t 126), none⟩])
                        (.seq
                         (.cond (.t 128)
                          .skip
                          (.exit 6))
                         (.seq
                          (.block 7
                           (.seq
                            (.reg none [⟨(some 129), .iaddr 1 (.t 125) (.t 127), none⟩,
                              ⟨(some 130), .load none (.t 129), none⟩,
                              ⟨(some 16), .mv (.t 130), none⟩])
                            (.seq
                             (.reg none [⟨(some 131), .mv (.t 16), none⟩,
                               ⟨(some 132), .mv (.t 7), none⟩,
                               ⟨(some 133), .bin .neq (.t 131) (.t 132), none⟩])
                             (.cond (.t 133)
                              (.seq
                               (.reg none [⟨(some 6), .mv (.c (.b false)), none⟩])
                               .ret)
                              .skip))))
                          (.reg none [⟨(some 134), .bin .add (.t 127) (.c (.int .i64 1)), none⟩,
                            ⟨(some 127), .mv (.t 134), none⟩])))))))))
                  (.reg none [⟨(some 135), .bin .add (.t 121) (.c (.int .i64 1)), none⟩,
                    ⟨(some 121), .mv (.t 135), none⟩])))))))
            (.seq
             (.reg none [⟨(some 17), .mv (.c .nils), none⟩])
             (.seq
              (.seq
               (.reg none [⟨(some 136), .mv (.t 9), none⟩,
                 ⟨(some 137), .len (.t 136), none⟩,
                 ⟨(some 138), .mv (.c (.int .i64 0)), none⟩])
               (.block 8
                (.loop
                 (.seq
                  (.reg none [⟨(some 139), .bin .lss (.t 138) (.t 137), none⟩])
                  (.seq
                   (.cond (.t 139)
                    .skip
                    (.exit 8))
                   (.seq
                    (.block 9
                     (.seq
                      (.reg none [⟨(some 140), .iaddr 1 (.t 136) (.t 138), none⟩,
                        ⟨(some 141), .load none (.t 140), none⟩,
                        ⟨(some 19), .mv (.t 141), none⟩])
                      (.reg none [⟨(some 142), .mv (.t 17), none⟩,
                        ⟨(some 143), .mv (.t 19), none⟩,
                        ⟨(some 144), .call 18 [(.t 143)], none⟩,
                        ⟨(some 145), .bslice [.nils] 1 1 [(0, (.t 144))], none⟩,
                        ⟨(some 146), .append 1 24 (.t 142) (.t 145), none⟩,
                        ⟨(some 17), .mv (.t 146), none⟩])))
                    (.reg none [⟨(some 147), .bin .add (.t 138) (.c (.int .i64 1)), none⟩,
                      ⟨(some 138), .mv (.t 147), none⟩])))))))
              (.seq
               (.reg none [⟨(some 149), .mv (.t 9), none⟩,
                 ⟨(some 150), .call 19 [(.t 149)], none⟩,
                 ⟨(some 148), .mv (.t 150), none⟩,
                 ⟨(some 151), .extr (.t 148) 0, none⟩,
                 ⟨(some 152), .extr (.t 148) 1, none⟩,
                 ⟨(some 20), .alloc [(.int .i64 0), (.int .i64 0)], none⟩,
                 ⟨none, .store 2 (.t 20) (.t 151), none⟩,
                 ⟨(some 21), .mv (.t 152), none⟩])
               (.seq
                (.reg none [⟨(some 154), .mv (.t 17), none⟩,
                  ⟨(some 155), .call 20 [(.t 154)], none⟩,
                  ⟨(some 153), .mv (.t 155), none⟩,
                  ⟨(some 156), .extr (.t 153) 0, none⟩,
                  ⟨(some 157), .extr (.t 153) 1, none⟩,
                  ⟨(some 22), .alloc [(.int .i64 0), (.int .i64 0)], none⟩,
                  ⟨none, .store 2 (.t 22) (.t 156), none⟩,
                  ⟨(some 23), .mv (.t 157), none⟩])
                (.seq
                 (.reg none [⟨(some 158), .mv (.t 21), none⟩,
                   ⟨(some 159), .bin .eql (.t 158) (.c (.int .i64 0)), none⟩,
                   ⟨(some 160), .mv (.t 159), none⟩,
                   ⟨(some 161), .mv (.t 23), some (160, true)⟩,
                   ⟨(some 162), .bin .eql (.t 161) (.c (.int .i64 0)), some (160, true)⟩,
                   ⟨(some 163), .pick (.t 160) (.t 162) (.c (.b false)), none⟩,
                   ⟨(some 164), .mv (.t 163), none⟩,
                   ⟨(some 165), .load (some 2) (.t 20), some (164, true)⟩,
                   ⟨(some 166), .build [(.int .i64 0), (.int .i64 0)] [(1, 1, (.c (.int .i64 1)))], some (164, true)⟩,
                   ⟨(some 167), .aeq false 2 (.t 165) (.t 166), some (164, true)⟩,
                   ⟨(some 168), .pick (.t 164) (.t 167) (.c (.b false)), none⟩,
                   ⟨(some 169), .mv (.t 168), none⟩,
                   ⟨(some 170), .load (some 2) (.t 22), some (169, true)⟩,
                   ⟨(some 171), .build [(.int .i64 0), (.int .i64 0)] [(0, 1, (.c (.int .i64 1))), (1, 1, (.c (.int .i64 1)))], some (169, true)⟩,
                   ⟨(some 172), .aeq false 2 (.t 170) (.t 171), some (169, true)⟩,
                   ⟨(some 173), .pick (.t 169) (.t 172) (.c (.b false)), none⟩,
                   ⟨(some 174), .mv (.t 173), none⟩,
                   ⟨(some 175), .call 17 [], some (174, true)⟩,
                   ⟨(some 176), .pick (.t 174) (.t 175) (.c (.b false)), none⟩,
                   ⟨(some 6), .mv (.t 176), none⟩])
                 .ret))))))))))))))) }
theorem f4P : prepF C Try.f4 = some f4A := by kernel_rfl

/-- congou/arrays.Index -/
def f13A : AFunc :=
{ nargs := 2, res := [.t 4, .t 5], body :=
  (.seq
   (.reg none [⟨(some 2), .box (.t 0), none⟩,
     ⟨(some 4), .mv (.c (.int .i64 0)), none⟩,
     ⟨(some 5), .mv (.c (.int .i64 0)), none⟩])
   (.seq
    (.seq
     (.reg none [⟨(some 7), .load (some 2) (.t 2), none⟩,
       ⟨(some 8), .mv (.t 1), none⟩,
       ⟨(some 9), .call 29 [(.t 7), (.t 8), (.c (.int .i64 3))], none⟩,
       ⟨(some 10), .un .not (.t 9), none⟩])
     (.cond (.t 10)
      (.seq
       (.reg none [⟨(some 4), .mv (.c (.int .i64 0)), none⟩,
         ⟨(some 5), .mv (.c (.int .i64 2)), none⟩])
       .ret)
      .skip))
    (.seq
     (.reg none [⟨(some 11), .load (some 2) (.t 2), none⟩,
       ⟨(some 12), .mv (.t 1), none⟩,
       ⟨(some 13), .call 30 [(.t 11), (.t 12)], none⟩,
       ⟨(some 6), .mv (.t 13), none⟩])
     (.seq
      (.seq
       (.reg none [⟨(some 14), .mv (.t 6), none⟩,
         ⟨(some 15), .bin .eql (.t 14) (.c (.int .i64 0)), none⟩])
       (.cond (.t 15)
        (.seq
         (.reg none [⟨(some 4), .mv (.c (.int .i64 0)), none⟩,
           ⟨(some 5), .mv (.c (.int .i64 4)), none⟩])
         .ret)
        .skip))
      (.seq
       (.reg none [⟨(some 16), .mv (.t 6), none⟩,
         ⟨(some 4), .mv (.t 16), none⟩,
         ⟨(some 5), .mv (.c (.int .i64 0)), none⟩])
       .ret))))) }
theorem f13P : prepF C Try.f13 = some f13A := by kernel_rfl

/-- congou/congoutop.array -/
def f14A : AFunc :=
{ nargs := 1, res := [.c 2 (some 2)], body :=
  (.seq
   (.reg none [⟨(some 1), .box (.t 0), none⟩,
     ⟨(some 2), .alloc [(.int .i64 0), .nils], none⟩])
   (.seq
    (.reg none [⟨(some 6), .faddr 0 (.t 1), none⟩,
      ⟨(some 7), .load none (.t 6), none⟩,
      ⟨(some 8), .build [(.int .i64 0), .nils] [(0, 1, (.t 7))], none⟩,
      ⟨(some 3), .alloc [(.int .i64 0), .nils], none⟩,
      ⟨none, .store 2 (.t 3) (.t 8), none⟩])
    (.seq
     (.seq
      (.reg none [⟨(some 9), .faddr 1 (.t 1), none⟩,
        ⟨(some 10), .load none (.t 9), none⟩,
        ⟨(some 11), .len (.t 10), none⟩,
        ⟨(some 12), .mv (.c (.int .i64 0)), none⟩])
      (.block 0
       (.loop
        (.seq
         (.reg none [⟨(some 13), .bin .lss (.t 12) (.t 11), none⟩])
         (.seq
          (.cond (.t 13)
           .skip
           (.exit 0))
          (.seq
           (.block 1
            (.seq
             (.reg none [⟨(some 14), .mv (.t 12), none⟩,
               ⟨(some 15), .iaddr 1 (.t 10) (.t 12), none⟩,
               ⟨(some 16), .load none (.t 15), none⟩,
               ⟨(some 4), .mv (.t 14), none⟩,
               ⟨(some 5), .mv (.t 16), none⟩])
             (.seq
              (.reg none [⟨(some 17), .mv (.t 4), none⟩,
                ⟨(some 18), .bin .lss (.t 17) (.c (.int .i64 19)), none⟩])
              (.cond (.t 18)
               (.reg (some []) [⟨(some 19), .faddr 1 (.t 3), none⟩,
                 ⟨(some 20), .load none (.t 19), none⟩,
                 ⟨(some 21), .mv (.t 5), none⟩,
                 ⟨(some 22), .mv (.t 5), none⟩,
                 ⟨(some 23), .len (.t 22), none⟩,
                 ⟨(some 24), .mn [(.t 23), (.c (.int .i64 11))], none⟩,
                 ⟨(some 25), .slice 1 (.t 21) none (some (.t 24)) none, none⟩,
                 ⟨(some 26), .call 18 [(.t 25)], none⟩,
                 ⟨(some 27), .bslice [.nils] 1 1 [(0, (.t 26))], none⟩,
                 ⟨(some 28), .append 1 24 (.t 20) (.t 27), none⟩,
                 ⟨(some 29), .faddr 1 (.t 3), none⟩,
                 ⟨none, .store 1 (.t 29) (.t 28), none⟩])
               .skip))))
           (.reg none [⟨(some 30), .bin .add (.t 12) (.c (.int .i64 1)), none⟩,
             ⟨(some 12), .mv (.t 30), none⟩])))))))
     (.seq
      (.reg none [⟨(some 31), .load (some 2) (.t 3), none⟩,
        ⟨none, .store 2 (.t 2) (.t 31), none⟩])
      .ret)))) }
theorem f14P : prepF C Try.f14 = some f14A := by kernel_rfl

/-- congou/congouref09.Valid -/
def f15A : AFunc :=
{ nargs := 1, res := [.t 2], body :=
  (.seq
   (.reg none [⟨(some 1), .box (.t 0), none⟩,
     ⟨(some 2), .mv (.c (.b false)), none⟩])
   (.seq
    (.seq
     (.reg none [⟨(some 7), .faddr 0 (.t 1), none⟩,
       ⟨(some 8), .load none (.t 7), none⟩,
       ⟨(some 9), .bin .lss (.t 8) (.c (.int .i64 2)), none⟩,
       ⟨(some 10), .mv (.t 9), none⟩,
       ⟨(some 11), .faddr 0 (.t 1), some (10, false)⟩,
       ⟨(some 12), .load none (.t 11), some (10, false)⟩,
       ⟨(some 13), .bin .gtr (.t 12) (.c (.int .i64 4)), some (10, false)⟩,
       ⟨(some 14), .pick (.t 10) (.c (.b true)) (.t 13), none⟩,
       ⟨(some 15), .mv (.t 14), none⟩,
       ⟨(some 16), .faddr 1 (.t 1), some (15, false)⟩,
       ⟨(some 17), .load none (.t 16), some (15, false)⟩,
       ⟨(some 18), .len (.t 17), some (15, false)⟩,
       ⟨(some 19), .bin .lss (.t 18) (.c (.int .i64 1)), some (15, false)⟩,
       ⟨(some 20), .pick (.t 15) (.c (.b true)) (.t 19), none⟩,
       ⟨(some 21), .mv (.t 20), none⟩,
       ⟨(some 22), .faddr 1 (.t 1), some (21, false)⟩,
       ⟨(some 23), .load none (.t 22), some (21, false)⟩,
       ⟨(some 24), .len (.t 23), some (21, false)⟩,
       ⟨(some 25), .bin .gtr (.t 24) (.c (.int .i64 16)), some (21, false)⟩,
       ⟨(some 26), .pick (.t 21) (.c (.b true)) (.t 25), none⟩])
     (.cond (.t 26)
      (.seq
       (.reg none [⟨(some 2), .mv (.c (.b false)), none⟩])
       .ret)
      .skip))
    (.seq
     (.seq
      (.reg none [⟨(some 27), .faddr 1 (.t 1), none⟩,
        ⟨(some 28), .load none (.t 27), none⟩,
        ⟨(some 29), .len (.t 28), none⟩,
        ⟨(some 30), .mv (.c (.int .i64 0)), none⟩])
      (.block 0
       (.loop
        (.seq
         (.reg none [⟨(some 31), .bin .lss (.t 30) (.t 29), none⟩])
         (.seq
          (.cond (.t 31)
           .skip
           (.exit 0))
          (.seq
           (.block 1
            (.seq
             (.reg none [⟨(some 32), .iaddr 1 (.t 28) (.t 30), none⟩,
               ⟨(some 33), .load none (.t 32), none⟩,
               ⟨(some 4), .mv (.t 33), none⟩])
             (.seq
              (.seq
               (.reg none [⟨(some 34), .mv (.t 4), none⟩,
                 ⟨(some 35), .len (.t 34), none⟩,
                 ⟨(some 36), .faddr 1 (.t 1), none⟩,
                 ⟨(some 37), .load none (.t 36), none⟩,
                 ⟨(some 38), .iaddr 1 (.t 37) (.c (.int .i64 0)), none⟩,
                 ⟨(some 39), .load none (.t 38), none⟩,
                 ⟨(some 40), .len (.t 39), none⟩,
                 ⟨(some 41), .bin .neq (.t 35) (.t 40), none⟩,
                 ⟨(some 42), .mv (.t 41), none⟩,
                 ⟨(some 43), .mv (.t 4), some (42, false)⟩,
                 ⟨(some 44), .len (.t 43), some (42, false)⟩,
                 ⟨(some 45), .bin .lss (.t 44) (.c (.int .i64 1)), some (42, false)⟩,
                 ⟨(some 46), .pick (.t 42) (.c (.b true)) (.t 45), none⟩,
                 ⟨(some 47), .mv (.t 46), none⟩,
                 ⟨(some 48), .mv (.t 4), some (47, false)⟩,
                 ⟨(some 49), .len (.t 48), some (47, false)⟩,
                 ⟨(some 50), .bin .gtr (.t 49) (.c (.int .i64 8)), some (47, false)⟩,
                 ⟨(some 51), .pick (.t 47) (.c (.b true)) (.t 50), none⟩])
               (.cond (.t 51)
                (.seq
                 (.reg none [⟨(some 2), .mv (.c (.b false)), none⟩])
                 .ret)
                .skip))
              (.seq
               (.reg none [⟨(some 52), .mv (.t 4), none⟩,
                 ⟨(some 53), .len (.t 52), none⟩,
                 ⟨(some 54), .mv (.c (.int .i64 0)), none⟩])
               (.block 2
                (.loop
                 (.seq
                  (.reg none [⟨(some 55), .bin .lss (.t 54) (.t 53), none⟩])
                  (.seq
                   (.cond (.t 55)
                    .skip
                    (.exit 2))
                   (.seq
                    (.block 3
                     (.seq
                      (.reg none [⟨(some 56), .iaddr 1 (.t 52) (.t 54), none⟩,
                        ⟨(some 57), .load none (.t 56), none⟩,
                        ⟨(some 6), .mv (.t 57), none⟩])
                      (.seq
                       (.reg none [⟨(some 58), .mv (.t 6), none⟩,
                         ⟨(some 59), .bin .lss (.t 58) (.c (.int .i64 0)), none⟩,
                         ⟨(some 60), .mv (.t 59), none⟩,
                         ⟨(some 61), .mv (.t 6), some (60, false)⟩,
                         ⟨(some 62), .faddr 0 (.t 1), some (60, false)⟩,
                         ⟨(some 63), .load none (.t 62), some (60, false)⟩,
                         ⟨(some 64), .bin .geq (.t 61) (.t 63), some (60, false)⟩,
                         ⟨(some 65), .pick (.t 60) (.c (.b true)) (.t 64), none⟩])
                       (.cond (.t 65)
                        (.seq
                         (.reg none [⟨(some 2), .mv (.c (.b false)), none⟩])
                         .ret)
                        .skip))))
                    (.reg none [⟨(some 66), .bin .add (.t 54) (.c (.int .i64 1)), none⟩,
                      ⟨(some 54), .mv (.t 66), none⟩]))))))))))
           (.reg none [⟨(some 67), .bin .add (.t 30) (.c (.int .i64 1)), none⟩,
             ⟨(some 30), .mv (.t 67), none⟩])))))))
     (.seq
      (.reg none [⟨(some 2), .mv (.c (.b true)), none⟩])
      .ret)))) }
theorem f15P : prepF C Try.f15 = some f15A := by kernel_rfl

/-- congou/congouref09.Width -/
def f16A : AFunc :=
{ nargs := 1, res := [.t 2], body :=
  (.seq
   (.reg none [⟨(some 1), .box (.t 0), none⟩,
     ⟨(some 2), .mv (.c (.int .i64 0)), none⟩])
   (.seq
    (.reg none [⟨(some 3), .faddr 1 (.t 1), none⟩,
      ⟨(some 4), .load none (.t 3), none⟩,
      ⟨(some 5), .iaddr 1 (.t 4) (.c (.int .i64 0)), none⟩,
      ⟨(some 6), .load none (.t 5), none⟩,
      ⟨(some 7), .len (.t 6), none⟩,
      ⟨(some 2), .mv (.t 7), none⟩])
    .ret)) }
theorem f16P : prepF C Try.f16 = some f16A := by kernel_rfl

/-- congou/congoutop.apart -/
def f17A : AFunc :=
{ nargs := 0, res := [.t 0], body :=
  (.seq
   (.reg none [⟨(some 0), .mv (.c (.b false)), none⟩])
   (.seq
    (.reg none [⟨(some 4), .bslice [(.int .i64 0)] 3 1 [(0, (.c (.int .i64 0))), (1, (.c (.int .i64 0))), (2, (.c (.int .i64 1)))], none⟩,
      ⟨(some 5), .bslice [(.int .i64 0)] 3 1 [(0, (.c (.int .i64 1))), (1, (.c (.int .i64 0))), (2, (.c (.int .i64 0)))], none⟩,
      ⟨(some 6), .bslice [.nils] 2 1 [(0, (.t 4)), (1, (.t 5))], none⟩,
      ⟨(some 7), .build [(.int .i64 0), .nils] [(0, 1, (.c (.int .i64 2))), (1, 1, (.t 6))], none⟩,
      ⟨(some 8), .call 31 [(.t 7)], none⟩,
      ⟨(some 3), .mv (.t 8), none⟩,
      ⟨(some 9), .extr (.t 3) 0, none⟩,
      ⟨(some 10), .extr (.t 3) 1, none⟩,
      ⟨(some 1), .mv (.t 9), none⟩,
      ⟨(some 2), .mv (.t 10), none⟩])
    (.seq
     (.reg none [⟨(some 11), .mv (.t 1), none⟩,
       ⟨(some 12), .bin .eql (.t 11) (.c (.int .i64 2)), none⟩,
       ⟨(some 13), .mv (.t 12), none⟩,
       ⟨(some 14), .mv (.t 2), some (13, true)⟩,
       ⟨(some 15), .bin .eql (.t 14) (.c (.int .i64 0)), some (13, true)⟩,
       ⟨(some 16), .pick (.t 13) (.t 15) (.c (.b false)), none⟩,
       ⟨(some 0), .mv (.t 16), none⟩])
     .ret))) }
theorem f17P : prepF C Try.f17 = some f17A := by kernel_rfl

/-- slices.Clone[[]int,int] -/
def f18A : AFunc :=
{ nargs := 1, res := [.t 2], body :=
  (.seq
   (.reg none [⟨(some 2), .mv (.c .nils), none⟩])
   (.seq
    (.seq
     (.reg none [⟨(some 3), .mv (.t 0), none⟩,
       ⟨(some 4), .seq false (.t 3) (.c .nils), none⟩])
     (.cond (.t 4)
      (.seq
       (.reg none [⟨(some 2), .mv (.c .nils), none⟩])
       .ret)
      .skip))
    (.seq
     (.reg none [⟨(some 5), .bslice [(.int .i64 0)] 0 1 [], none⟩,
       ⟨(some 6), .mv (.t 0), none⟩,
       ⟨(some 7), .append 1 8 (.t 5) (.t 6), none⟩,
       ⟨(some 2), .mv (.t 7), none⟩])
     .ret))) }
theorem f18P : prepF C Try.f18 = some f18A := by kernel_rfl

/-- congou/counts.Off -/
def f19A : AFunc :=
{ nargs := 1, res := [.c 2 (some 2), .t 3], body :=
  (.seq
   (.reg none [⟨(some 2), .alloc [(.int .i64 0), (.int .i64 0)], none⟩,
     ⟨(some 3), .mv (.c (.int .i64 0)), none⟩])
   (.seq
    (.seq
     (.reg none [⟨(some 16), .mv (.t 0), none⟩,
       ⟨(some 17), .call 21 [(.t 16)], none⟩,
       ⟨(some 18), .un .not (.t 17), none⟩])
     (.cond (.t 18)
      (.seq
       (.reg none [⟨(some 19), .build [(.int .i64 0), (.int .i64 0)] [], none⟩,
         ⟨none, .store 2 (.t 2) (.t 19), none⟩,
         ⟨(some 3), .mv (.c (.int .i64 2)), none⟩])
       .ret)
      .skip))
    (.seq
     (.reg none [⟨(some 21), .mv (.t 0), none⟩,
       ⟨(some 22), .call 22 [(.t 21)], none⟩,
       ⟨(some 20), .mv (.t 22), none⟩,
       ⟨(some 23), .extr (.t 20) 0, none⟩,
       ⟨(some 24), .extr (.t 20) 1, none⟩,
       ⟨(some 4), .mv (.t 23), none⟩,
       ⟨(some 5), .mv (.t 24), none⟩])
     (.seq
      (.seq
       (.reg none [⟨(some 25), .mv (.t 4), none⟩,
         ⟨(some 26), .call 32 [(.t 25)], none⟩,
         ⟨(some 27), .bin .eql (.t 26) (.c (.int .i64 0)), none⟩,
         ⟨(some 28), .mv (.t 27), none⟩,
         ⟨(some 29), .mv (.t 5), some (28, false)⟩,
         ⟨(some 30), .call 32 [(.t 29)], some (28, false)⟩,
         ⟨(some 31), .bin .eql (.t 30) (.c (.int .i64 0)), some (28, false)⟩,
         ⟨(some 32), .pick (.t 28) (.c (.b true)) (.t 31), none⟩])
       (.cond (.t 32)
        (.seq
         (.reg none [⟨(some 33), .build [(.int .i64 0), (.int .i64 0)] [], none⟩,
           ⟨none, .store 2 (.t 2) (.t 33), none⟩,
           ⟨(some 3), .mv (.c (.int .i64 5)), none⟩])
         .ret)
        .skip))
      (.seq
       (.reg none [⟨(some 6), .mv (.c (.int .i64 0)), none⟩])
       (.seq
        (.seq
         (.reg none [⟨(some 34), .mv (.t 4), none⟩,
           ⟨(some 35), .len (.t 34), none⟩,
           ⟨(some 36), .mv (.c (.int .i64 0)), none⟩])
         (.block 0
          (.loop
           (.seq
            (.reg none [⟨(some 37), .bin .lss (.t 36) (.t 35), none⟩])
            (.seq
             (.cond (.t 37)
              .skip
              (.exit 0))
             (.seq
              (.block 1
               (.seq
                (.reg none [⟨(some 38), .iaddr 1 (.t 34) (.t 36), none⟩,
                  ⟨(some 39), .load none (.t 38), none⟩,
                  ⟨(some 8), .mv (.t 39), none⟩])
                (.reg none [⟨(some 40), .mv (.t 6), none⟩,
                  ⟨(some 41), .mv (.t 8), none⟩,
                  ⟨(some 42), .bin .add (.t 40) (.t 41), none⟩,
                  ⟨(some 6), .mv (.t 42), none⟩])))
              (.reg none [⟨(some 43), .bin .add (.t 36) (.c (.int .i64 1)), none⟩,
                ⟨(some 36), .mv (.t 43), none⟩])))))))
        (.seq
         (.reg none [⟨(some 44), .call 33 [(.c (.int .i64 0)), (.c (.int .i64 1))], none⟩,
           ⟨(some 9), .alloc [(.int .i64 0), (.int .i64 0)], none⟩,
           ⟨none, .store 2 (.t 9) (.t 44), none⟩])
         (.seq
          (.seq
           (.reg none [⟨(some 45), .mv (.t 0), none⟩,
             ⟨(some 46), .len (.t 45), none⟩,
             ⟨(some 47), .mv (.c (.int .i64 0)), none⟩])
           (.block 2
            (.loop
             (.seq
              (.reg none [⟨(some 48), .bin .lss (.t 47) (.t 46), none⟩])
              (.seq
               (.cond (.t 48)
                .skip
                (.exit 2))
               (.seq
                (.block 3
                 (.seq
                  (.reg none [⟨(some 49), .mv (.t 47), none⟩,
                    ⟨(some 50), .iaddr 1 (.t 45) (.t 47), none⟩,
                    ⟨(some 51), .load none (.t 50), none⟩,
                    ⟨(some 10), .mv (.t 49), none⟩,
                    ⟨(some 11), .mv (.t 51), none⟩])
                  (.seq
                   (.reg none [⟨(some 52), .mv (.t 11), none⟩,
                     ⟨(some 53), .len (.t 52), none⟩,
                     ⟨(some 54), .mv (.c (.int .i64 0)), none⟩])
                   (.block 4
                    (.loop
                     (.seq
                      (.reg none [⟨(some 55), .bin .lss (.t 54) (.t 53), none⟩])
                      (.seq
                       (.cond (.t 55)
                        .skip
                        (.exit 4))
                       (.seq
                        (.block 5
                         (.seq
                          (.reg none [⟨(some 56), .mv (.t 54), none⟩,
                            ⟨(some 57), .iaddr 1 (.t 52) (.t 54), none⟩,
                            ⟨(some 58), .load none (.t 57), none⟩,
                            ⟨(some 12), .mv (.t 56), none⟩,
                            ⟨(some 13), .mv (.t 58), none⟩])
                          (.seq
                           (.reg (some []) [⟨(some 59), .mv (.t 4), none⟩,
                             ⟨(some 60), .mv (.t 10), none⟩,
                             ⟨(some 61), .iaddr 1 (.t 59) (.t 60), none⟩,
                             ⟨(some 62), .load none (.t 61), none⟩,
                             ⟨(some 63), .mv (.t 5), none⟩,
                             ⟨(some 64), .mv (.t 12), none⟩,
                             ⟨(some 65), .iaddr 1 (.t 63) (.t 64), none⟩,
                             ⟨(some 66), .load none (.t 65), none⟩,
                             ⟨(some 67), .bin .mul (.t 62) (.t 66), none⟩,
                             ⟨(some 14), .mv (.t 67), none⟩])
                           (.seq
                            (.reg none [⟨(some 68), .mv (.t 13), none⟩,
                              ⟨(some 69), .mv (.t 6), none⟩,
                              ⟨(some 70), .bin .mul (.t 68) (.t 69), none⟩,
                              ⟨(some 71), .mv (.t 14), none⟩,
                              ⟨(some 72), .bin .sub (.t 70) (.t 71), none⟩,
                              ⟨(some 15), .mv (.t 72), none⟩])
                            (.reg (some []) [⟨(some 73), .load (some 2) (.t 9), none⟩,
                              ⟨(some 74), .mv (.t 15), none⟩,
                              ⟨(some 75), .mv (.t 15), none⟩,
                              ⟨(some 76), .bin .mul (.t 74) (.t 75), none⟩,
                              ⟨(some 77), .mv (.t 14), none⟩,
                              ⟨(some 78), .mv (.t 6), none⟩,
                              ⟨(some 79), .bin .mul (.t 77) (.t 78), none⟩,
                              ⟨(some 80), .call 33 [(.t 76), (.t 79)], none⟩,
                              ⟨(some 81), .call 34 [(.t 73), (.t 80)], none⟩,
                              ⟨none, .store 2 (.t 9) (.t 81), none⟩])))))
                        (.reg none [⟨(some 82), .bin .add (.t 54) (.c (.int .i64 1)), none⟩,
                          ⟨(some 54), .mv (.t 82), none⟩])))))))))
                (.reg none [⟨(some 83), .bin .add (.t 47) (.c (.int .i64 1)), none⟩,
                  ⟨(some 47), .mv (.t 83), none⟩])))))))
          (.seq
           (.reg none [⟨(some 84), .load (some 2) (.t 9), none⟩,
             ⟨none, .store 2 (.t 2) (.t 84), none⟩,
             ⟨(some 3), .mv (.c (.int .i64 0)), none⟩])
           .ret))))))))) }
theorem f19P : prepF C Try.f19 = some f19A := by kernel_rfl

/-- congou/counts.Tail -/
def f20A : AFunc :=
{ nargs := 1, res := [.c 2 (some 2), .t 3], body :=
  (.seq
   (.reg none [⟨(some 2), .alloc [(.int .i64 0), (.int .i64 0)], none⟩,
     ⟨(some 3), .mv (.c (.int .i64 0)), none⟩])
   (.seq
    (.seq
     (.reg none [⟨(some 8), .mv (.t 0), none⟩,
       ⟨(some 9), .call 21 [(.t 8)], none⟩,
       ⟨(some 10), .un .not (.t 9), none⟩])
     (.cond (.t 10)
      (.seq
       (.reg none [⟨(some 11), .build [(.int .i64 0), (.int .i64 0)] [], none⟩,
         ⟨none, .store 2 (.t 2) (.t 11), none⟩,
         ⟨(some 3), .mv (.c (.int .i64 2)), none⟩])
       .ret)
      .skip))
    (.seq
     (.reg none [⟨(some 12), .mv (.t 0), none⟩,
       ⟨(some 13), .call 35 [(.t 12)], none⟩,
       ⟨(some 4), .alloc [(.int .i64 0)], none⟩,
       ⟨none, .store 1 (.t 4) (.t 13), none⟩])
     (.seq
      (.reg none [⟨(some 5), .alloc [(.int .i64 0)], none⟩,
        ⟨none, .store 1 (.t 5) (.c (.int .i64 0)), none⟩])
      (.seq
       (.seq
        (.reg none [⟨(some 14), .mv (.t 0), none⟩,
          ⟨(some 15), .call 36 [(.t 14)], none⟩,
          ⟨(some 16), .mkfn 37 [(.t 15)] [], none⟩])
        (.block 0
         (.rangeF 32 (.t 16) [17]
          (.reg none [⟨(some 6), .mv (.t 17), none⟩])
          (.block 1
           (.seq
            (.reg none [⟨(some 18), .mv (.t 6), none⟩,
              ⟨(some 19), .call 35 [(.t 18)], none⟩,
              ⟨(some 7), .mv (.t 19), none⟩])
            (.seq
             (.reg none [⟨(some 20), .mv (.t 7), none⟩,
               ⟨(some 21), .load none (.t 4), none⟩,
               ⟨(some 22), .bin .leq (.t 20) (.t 21), none⟩])
             (.cond (.t 22)
              (.reg none [⟨(some 23), .load none (.t 5), none⟩,
                ⟨(some 24), .mv (.t 7), none⟩,
                ⟨(some 25), .bin .add (.t 23) (.t 24), none⟩,
                ⟨none, .store 1 (.t 5) (.t 25), none⟩])
              .skip)))))))
       (.seq
        (.reg (some []) [⟨(some 26), .load none (.t 5), none⟩,
          ⟨(some 27), .mv (.t 0), none⟩,
          ⟨(some 28), .call 36 [(.t 27)], none⟩,
          ⟨(some 29), .field 1 none (.t 28), none⟩,
          ⟨(some 30), .call 38 [(.t 29)], none⟩,
          ⟨(some 31), .call 33 [(.t 26), (.t 30)], none⟩,
          ⟨none, .store 2 (.t 2) (.t 31), none⟩,
          ⟨(some 3), .mv (.c (.int .i64 0)), none⟩])
        .ret)))))) }
theorem f20P : prepF C Try.f20 = some f20A := by kernel_rfl

/-- (congou/counts.table).valid -/
def f21A : AFunc :=
{ nargs := 1, res := [.t 2], body :=
  (.seq
   (.reg none [⟨(some 2), .mv (.c (.b false)), none⟩])
   (.seq
    (.seq
     (.reg none [⟨(some 8), .mv (.t 0), none⟩,
       ⟨(some 9), .len (.t 8), none⟩,
       ⟨(some 10), .bin .lss (.t 9) (.c (.int .i64 1)), none⟩,
       ⟨(some 11), .mv (.t 10), none⟩,
       ⟨(some 12), .mv (.t 0), some (11, false)⟩,
       ⟨(some 13), .len (.t 12), some (11, false)⟩,
       ⟨(some 14), .bin .gtr (.t 13) (.c (.int .i64 3)), some (11, false)⟩,
       ⟨(some 15), .pick (.t 11) (.c (.b true)) (.t 14), none⟩])
     (.cond (.t 15)
      (.seq
       (.reg none [⟨(some 2), .mv (.c (.b false)), none⟩])
       .ret)
      .skip))
    (.seq
     (.reg none [⟨(some 3), .mv (.c (.int .i64 0)), none⟩])
     (.seq
      (.seq
       (.reg none [⟨(some 16), .mv (.t 0), none⟩,
         ⟨(some 17), .len (.t 16), none⟩,
         ⟨(some 18), .mv (.c (.int .i64 0)), none⟩])
       (.block 0
        (.loop
         (.seq
          (.reg none [⟨(some 19), .bin .lss (.t 18) (.t 17), none⟩])
          (.seq
           (.cond (.t 19)
            .skip
            (.exit 0))
           (.seq
            (.block 1
             (.seq
              (.reg none [⟨(some 20), .iaddr 1 (.t 16) (.t 18), none⟩,
                ⟨(some 21), .load none (.t 20), none⟩,
                ⟨(some 5), .mv (.t 21), none⟩])
              (.seq
               (.seq
                (.reg none [⟨(some 22), .mv (.t 5), none⟩,
                  ⟨(some 23), .len (.t 22), none⟩,
                  ⟨(some 24), .bin .lss (.t 23) (.c (.int .i64 1)), none⟩,
                  ⟨(some 25), .mv (.t 24), none⟩,
                  ⟨(some 26), .mv (.t 5), some (25, false)⟩,
                  ⟨(some 27), .len (.t 26), some (25, false)⟩,
                  ⟨(some 28), .bin .gtr (.t 27) (.c (.int .i64 3)), some (25, false)⟩,
                  ⟨(some 29), .pick (.t 25) (.c (.b true)) (.t 28), none⟩,
                  ⟨(some 30), .mv (.t 29), none⟩,
                  ⟨(some 31), .mv (.t 5), some (30, false)⟩,
                  ⟨(some 32), .len (.t 31), some (30, false)⟩,
                  ⟨(some 33), .mv (.t 0), some (30, false)⟩,
                  ⟨(some 34), .iaddr 1 (.t 33) (.c (.int .i64 0)), some (30, false)⟩,
                  ⟨(some 35), .load none (.t 34), some (30, false)⟩,
                  ⟨(some 36), .len (.t 35), some (30, false)⟩,
                  ⟨(some 37), .bin .neq (.t 32) (.t 36), some (30, false)⟩,
                  ⟨(some 38), .pick (.t 30) (.c (.b true)) (.t 37), none⟩,
                  ⟨(some 39), .mv (.t 38), none⟩,
                  ⟨(some 40), .mv (.t 5), some (39, false)⟩,
                  ⟨(some 41), .call 39 [(.t 40)], some (39, false)⟩,
                  ⟨(some 42), .un .not (.t 41), some (39, false)⟩,
                  ⟨(some 43), .pick (.t 39) (.c (.b true)) (.t 42), none⟩])
                (.cond (.t 43)
                 (.seq
                  (.reg none [⟨(some 2), .mv (.c (.b false)), none⟩])
                  .ret)
                 .skip))
               (.seq
                (.reg none [⟨(some 44), .mv (.t 5), none⟩,
                  ⟨(some 45), .len (.t 44), none⟩,
                  ⟨(some 46), .mv (.c (.int .i64 0)), none⟩])
                (.block 2
                 (.loop
                  (.seq
                   (.reg none [⟨(some 47), .bin .lss (.t 46) (.t 45), none⟩])
                   (.seq
                    (.cond (.t 47)
                     .skip
                     (.exit 2))
                    (.seq
                     (.block 3
                      (.seq
                       (.reg none [⟨(some 48), .iaddr 1 (.t 44) (.t 46), none⟩,
                         ⟨(some 49), .load none (.t 48), none⟩,
                         ⟨(some 7), .mv (.t 49), none⟩])
                       (.reg none [⟨(some 50), .mv (.t 3), none⟩,
                         ⟨(some 51), .mv (.t 7), none⟩,
                         ⟨(some 52), .bin .add (.t 50) (.t 51), none⟩,
                         ⟨(some 3), .mv (.t 52), none⟩])))
                     (.reg none [⟨(some 53), .bin .add (.t 46) (.c (.int .i64 1)), none⟩,
                       ⟨(some 46), .mv (.t 53), none⟩]))))))))))
            (.reg none [⟨(some 54), .bin .add (.t 18) (.c (.int .i64 1)), none⟩,
              ⟨(some 18), .mv (.t 54), none⟩])))))))
      (.seq
       (.reg none [⟨(some 55), .mv (.t 3), none⟩,
         ⟨(some 56), .bin .leq (.t 55) (.c (.int .i64 16)), none⟩,
         ⟨(some 2), .mv (.t 56), none⟩])
       .ret))))) }
theorem f21P : prepF C Try.f21 = some f21A := by kernel_rfl

/-- (congou/counts.table).sums -/
def f22A : AFunc :=
{ nargs := 1, res := [.t 2, .t 3], body :=
  (.seq
   (.reg none [⟨(some 2), .mv (.c .nils), none⟩,
     ⟨(some 3), .mv (.c .nils), none⟩])
   (.seq
    (.reg none [⟨(some 9), .mv (.t 0), none⟩,
      ⟨(some 10), .iaddr 1 (.t 9) (.c (.int .i64 0)), none⟩,
      ⟨(some 11), .load none (.t 10), none⟩,
      ⟨(some 12), .len (.t 11), none⟩,
      ⟨(some 13), .mkslice 1 8 [(.int .i64 0)] (.t 12), none⟩,
      ⟨(some 3), .mv (.t 13), none⟩])
    (.seq
     (.seq
      (.reg none [⟨(some 14), .mv (.t 0), none⟩,
        ⟨(some 15), .len (.t 14), none⟩,
        ⟨(some 16), .mv (.c (.int .i64 0)), none⟩])
      (.block 0
       (.loop
        (.seq
         (.reg none [⟨(some 17), .bin .lss (.t 16) (.t 15), none⟩])
         (.seq
          (.cond (.t 17)
           .skip
           (.exit 0))
          (.seq
           (.block 1
            (.seq
             (.reg none [⟨(some 18), .iaddr 1 (.t 14) (.t 16), none⟩,
               ⟨(some 19), .load none (.t 18), none⟩,
               ⟨(some 5), .mv (.t 19), none⟩])
             (.seq
              (.reg none [⟨(some 6), .mv (.c (.int .i64 0)), none⟩])
              (.seq
               (.seq
                (.reg none [⟨(some 20), .mv (.t 5), none⟩,
                  ⟨(some 21), .len (.t 20), none⟩,
                  ⟨(some 22), .mv (.c (.int .i64 0)), none⟩])
                (.block 2
                 (.loop
                  (.seq
                   (.reg none [⟨(some 23), .bin .lss (.t 22) (.t 21), none⟩])
                   (.seq
                    (.cond (.t 23)
                     .skip
                     (.exit 2))
                    (.seq
                     (.block 3
                      (.seq
                       (.reg none [⟨(some 24), .mv (.t 22), none⟩,
                         ⟨(some 25), .iaddr 1 (.t 20) (.t 22), none⟩,
                         ⟨(some 26), .load none (.t 25), none⟩,
                         ⟨(some 7), .mv (.t 24), none⟩,
                         ⟨(some 8), .mv (.t 26), none⟩])
                       (.seq
                        (.reg none [⟨(some 27), .mv (.t 6), none⟩,
                          ⟨(some 28), .mv (.t 8), none⟩,
                          ⟨(some 29), .bin .add (.t 27) (.t 28), none⟩,
                          ⟨(some 6), .mv (.t 29), none⟩])
                        (.reg none [⟨(some 30), .mv (.t 3), none⟩,
                          ⟨(some 31), .mv (.t 7), none⟩,
                          ⟨(some 32), .iaddr 1 (.t 30) (.t 31), none⟩,
                          ⟨(some 33), .load none (.t 32), none⟩,
                          ⟨(some 34), .mv (.t 8), none⟩,
                          ⟨(some 35), .bin .add (.t 33) (.t 34), none⟩,
                          ⟨(some 36), .iaddr 1 (.t 30) (.t 31), none⟩,
                          ⟨none, .store 1 (.t 36) (.t 35), none⟩]))))
                     (.reg none [⟨(some 37), .bin .add (.t 22) (.c (.int .i64 1)), none⟩,
                       ⟨(some 22), .mv (.t 37), none⟩])))))))
               (.reg none [⟨(some 38), .mv (.t 2), none⟩,
                 ⟨(some 39), .mv (.t 6), none⟩,
                 ⟨(some 40), .bslice [(.int .i64 0)] 1 1 [(0, (.t 39))], none⟩,
                 ⟨(some 41), .append 1 8 (.t 38) (.t 40), none⟩,
                 ⟨(some 2), .mv (.t 41), none⟩])))))
           (.reg none [⟨(some 42), .bin .add (.t 16) (.c (.int .i64 1)), none⟩,
             ⟨(some 16), .mv (.t 42), none⟩])))))))
     (.seq
      (.reg none [⟨(some 43), .mv (.t 2), none⟩,
        ⟨(some 44), .mv (.t 3), none⟩,
        ⟨(some 2), .mv (.t 43), none⟩,
        ⟨(some 3), .mv (.t 44), none⟩])
      .ret)))) }
theorem f22P : prepF C Try.f22 = some f22A := by kernel_rfl

/-- (congou/arrays.Array).strong -/
def f29A : AFunc :=
{ nargs := 3, res := [.t 6], body :=
  (.seq
   (.reg none [⟨(some 3), .box (.t 0), none⟩,
     ⟨(some 6), .mv (.c (.b false)), none⟩])
   (.seq
    (.reg none [⟨(some 7), .load (some 2) (.t 3), none⟩,
      ⟨(some 8), .call 45 [(.t 7)], none⟩,
      ⟨(some 9), .mv (.t 8), none⟩,
      ⟨(some 10), .mv (.t 1), some (9, true)⟩,
      ⟨(some 11), .bin .geq (.t 10) (.c (.int .i64 1)), some (9, true)⟩,
      ⟨(some 12), .pick (.t 9) (.t 11) (.c (.b false)), none⟩,
      ⟨(some 13), .mv (.t 12), none⟩,
      ⟨(some 14), .mv (.t 1), some (13, true)⟩,
      ⟨(some 15), .mv (.t 2), some (13, true)⟩,
      ⟨(some 16), .bin .leq (.t 14) (.t 15), some (13, true)⟩,
      ⟨(some 17), .pick (.t 13) (.t 16) (.c (.b false)), none⟩,
      ⟨(some 18), .mv (.t 17), none⟩,
      ⟨(some 19), .mv (.t 1), some (18, true)⟩,
      ⟨(some 20), .load (some 2) (.t 3), some (18, true)⟩,
      ⟨(some 21), .call 46 [(.t 20)], some (18, true)⟩,
      ⟨(some 22), .bin .leq (.t 19) (.t 21), some (18, true)⟩,
      ⟨(some 23), .pick (.t 18) (.t 22) (.c (.b false)), none⟩,
      ⟨(some 6), .mv (.t 23), none⟩])
    .ret)) }
theorem f29P : prepF C Try.f29 = some f29A := by kernel_rfl

/-- (congou/arrays.Array).index -/
def f30A : AFunc :=
{ nargs := 2, res := [.c 4 none], body :=
  (.seq
   (.reg none [⟨(some 2), .box (.t 0), none⟩,
     ⟨(some 4), .alloc [(.int .i64 0)], none⟩])
   (.seq
    (.reg none [⟨(some 5), .alloc [(.int .i64 0)], none⟩,
      ⟨none, .store 1 (.t 5) (.c (.int .i64 (-1))), none⟩])
    (.seq
     (.seq
      (.reg none [⟨(some 8), .load (some 2) (.t 2), none⟩,
        ⟨(some 9), .mv (.t 1), none⟩,
        ⟨(some 10), .call 47 [(.t 8), (.t 9)], none⟩])
      (.block 0
       (.rangeF 20 (.t 10) [11, 12]
        (.reg none [⟨(some 7), .mv (.t 12), none⟩])
        (.block 1
         (.seq
          (.seq
           (.reg none [⟨(some 13), .load none (.t 5), none⟩,
             ⟨(some 14), .bin .lss (.t 13) (.c (.int .i64 0)), none⟩])
           (.cond (.t 14)
            (.reg none [⟨(some 15), .mv (.t 7), none⟩,
              ⟨none, .store 1 (.t 5) (.t 15), none⟩])
            .skip))
          (.seq
           (.reg none [⟨(some 16), .mv (.t 7), none⟩,
             ⟨(some 17), .load none (.t 5), none⟩,
             ⟨(some 18), .bin .neq (.t 16) (.t 17), none⟩])
           (.cond (.t 18)
            (.seq
             (.reg none [⟨none, .store 1 (.t 4) (.c (.int .i64 0)), none⟩])
             .ret)
            .skip)))))))
     (.seq
      (.reg none [⟨(some 19), .load none (.t 5), none⟩,
        ⟨none, .store 1 (.t 4) (.t 19), none⟩])
      .ret)))) }
theorem f30P : prepF C Try.f30 = some f30A := by kernel_rfl

/-- congou/arrays.Distance -/
def f31A : AFunc :=
{ nargs := 1, res := [.t 2, .t 3], body :=
  (.seq
   (.reg none [⟨(some 1), .box (.t 0), none⟩,
     ⟨(some 2), .mv (.c (.int .i64 0)), none⟩,
     ⟨(some 3), .mv (.c (.int .i64 0)), none⟩])
   (.seq
    (.block 0
     (.seq
      (.reg none [⟨(some 12), .load (some 2) (.t 1), none⟩,
        ⟨(some 13), .call 45 [(.t 12)], none⟩,
        ⟨(some 14), .un .not (.t 13), none⟩,
        ⟨(some 11), .mv (.t 14), none⟩])
      (.cond (.t 11)
       (.seq
        (.reg none [⟨(some 2), .mv (.c (.int .i64 0)), none⟩,
          ⟨(some 3), .mv (.c (.int .i64 2)), none⟩])
        .ret)
       (.seq
        (.reg none [⟨(some 16), .faddr 1 (.t 1), none⟩,
          ⟨(some 17), .load none (.t 16), none⟩,
          ⟨(some 18), .len (.t 17), none⟩,
          ⟨(some 19), .bin .eql (.t 18) (.c (.int .i64 1)), none⟩,
          ⟨(some 15), .mv (.t 19), none⟩])
        (.cond (.t 15)
         (.seq
          (.reg none [⟨(some 2), .mv (.c (.int .i64 0)), none⟩,
            ⟨(some 3), .mv (.c (.int .i64 4)), none⟩])
          .ret)
         .skip)))))
    (.seq
     (.reg none [⟨(some 20), .load (some 2) (.t 1), none⟩,
       ⟨(some 21), .call 46 [(.t 20)], none⟩,
       ⟨(some 4), .mv (.t 21), none⟩])
     (.seq
      (.seq
       (.reg none [⟨(some 22), .faddr 1 (.t 1), none⟩,
         ⟨(some 23), .load none (.t 22), none⟩,
         ⟨(some 24), .len (.t 23), none⟩,
         ⟨(some 25), .mv (.c (.int .i64 0)), none⟩])
       (.block 1
        (.loop
         (.seq
          (.reg none [⟨(some 26), .bin .lss (.t 25) (.t 24), none⟩])
          (.seq
           (.cond (.t 26)
            .skip
            (.exit 1))
           (.seq
            (.block 2
             (.seq
              (.reg none [⟨(some 27), .mv (.t 25), none⟩,
                ⟨(some 28), .iaddr 1 (.t 23) (.t 25), none⟩,
                ⟨(some 29), .load none (.t 28), none⟩,
                ⟨(some 5), .mv (.t 27), none⟩,
                ⟨(some 6), .mv (.t 29), none⟩])
              (.seq
               (.reg none [⟨(some 30), .faddr 1 (.t 1), none⟩,
                 ⟨(some 31), .load none (.t 30), none⟩,
                 ⟨(some 32), .mv (.t 5), none⟩,
                 ⟨(some 33), .slice 1 (.t 31) none (some (.t 32)) none, none⟩,
                 ⟨(some 34), .len (.t 33), none⟩,
                 ⟨(some 35), .mv (.c (.int .i64 0)), none⟩])
               (.block 3
                (.loop
                 (.seq
                  (.reg none [⟨(some 36), .bin .lss (.t 35) (.t 34), none⟩])
                  (.seq
                   (.cond (.t 36)
                    .skip
                    (.exit 3))
                   (.seq
                    (.block 4
                     (.seq
                      (.reg none [⟨(some 37), .iaddr 1 (.t 33) (.t 35), none⟩,
                        ⟨(some 38), .load none (.t 37), none⟩,
                        ⟨(some 8), .mv (.t 38), none⟩])
                      (.seq
                       (.reg none [⟨(some 9), .mv (.c (.int .i64 0)), none⟩])
                       (.seq
                        (.seq
                         (.reg none [⟨(some 39), .mv (.t 6), none⟩,
                           ⟨(some 40), .len (.t 39), none⟩,
                           ⟨(some 41), .mv (.c (.int .i64 0)), none⟩])
                         (.block 5
                          (.loop
                           (.seq
                            (.reg none [⟨(some 42), .bin .lss (.t 41) (.t 40), none⟩])
                            (.seq
                             (.cond (.t 42)
                              .skip
                              (.exit 5))
                             (.seq
                              (.block 6
                               (.seq
                                (.reg none [⟨(some 43), .mv (.t 41), none⟩,
                                  ⟨(some 10), .mv (.t 43), none⟩])
                                (.seq
                                 (.reg (some []) [⟨(some 44), .mv (.t 6), none⟩,
                                   ⟨(some 45), .mv (.t 10), none⟩,
                                   ⟨(some 46), .iaddr 1 (.t 44) (.t 45), none⟩,
                                   ⟨(some 47), .load none (.t 46), none⟩,
                                   ⟨(some 48), .mv (.t 8), none⟩,
                                   ⟨(some 49), .mv (.t 10), none⟩,
                                   ⟨(some 50), .iaddr 1 (.t 48) (.t 49), none⟩,
                                   ⟨(some 51), .load none (.t 50), none⟩,
                                   ⟨(some 52), .bin .neq (.t 47) (.t 51), none⟩])
                                 (.cond (.t 52)
                                  (.reg none [⟨(some 53), .mv (.t 9), none⟩,
                                    ⟨(some 54), .bin .add (.t 53) (.c (.int .i64 1)), none⟩,
                                    ⟨(some 9), .mv (.t 54), none⟩])
                                  .skip))))
                              (.reg none [⟨(some 55), .bin .add (.t 41) (.c (.int .i64 1)), none⟩,
                                ⟨(some 41), .mv (.t 55), none⟩])))))))
                        (.reg none [⟨(some 56), .mv (.t 4), none⟩,
                          ⟨(some 57), .mv (.t 9), none⟩,
                          ⟨(some 58), .mn [(.t 56), (.t 57)], none⟩,
                          ⟨(some 4), .mv (.t 58), none⟩])))))
                    (.reg none [⟨(some 59), .bin .add (.t 35) (.c (.int .i64 1)), none⟩,
                      ⟨(some 35), .mv (.t 59), none⟩])))))))))
            (.reg none [⟨(some 60), .bin .add (.t 25) (.c (.int .i64 1)), none⟩,
              ⟨(some 25), .mv (.t 60), none⟩])))))))
      (.seq
       (.reg none [⟨(some 61), .mv (.t 4), none⟩,
         ⟨(some 2), .mv (.t 61), none⟩,
         ⟨(some 3), .mv (.c (.int .i64 0)), none⟩])
       .ret))))) }
theorem f31P : prepF C Try.f31 = some f31A := by kernel_rfl

/-- slices.Min[[]int,int] -/
def f32A : AFunc :=
{ nargs := 1, res := [.t 2], body :=
  (.seq
   (.reg none [⟨(some 2), .mv (.c (.int .i64 0)), none⟩])
   (.seq
    (.seq
     (.reg none [⟨(some 5), .mv (.t 0), none⟩,
       ⟨(some 6), .len (.t 5), none⟩,
       ⟨(some 7), .bin .lss (.t 6) (.c (.int .i64 1)), none⟩])
     (.cond (.t 7)
      (.reg none [⟨(some 8), .bad, none⟩,
        ⟨none, .bad, none⟩])
      .skip))
    (.seq
     (.reg none [⟨(some 9), .mv (.t 0), none⟩,
       ⟨(some 10), .iaddr 1 (.t 9) (.c (.int .i64 0)), none⟩,
       ⟨(some 11), .load none (.t 10), none⟩,
       ⟨(some 3), .mv (.t 11), none⟩])
     (.seq
      (.seq
       (.reg none [⟨(some 4), .mv (.c (.int .i64 1)), none⟩])
       (.block 0
        (.loop
         (.seq
          (.seq
           (.reg none [⟨(some 12), .mv (.t 4), none⟩,
             ⟨(some 13), .mv (.t 0), none⟩,
             ⟨(some 14), .len (.t 13), none⟩,
             ⟨(some 15), .bin .lss (.t 12) (.t 14), none⟩])
           (.cond (.t 15)
            .skip
            (.exit 0)))
          (.seq
           (.block 1
            (.reg none [⟨(some 18), .mv (.t 3), none⟩,
              ⟨(some 19), .mv (.t 0), none⟩,
              ⟨(some 20), .mv (.t 4), none⟩,
              ⟨(some 21), .iaddr 1 (.t 19) (.t 20), none⟩,
              ⟨(some 22), .load none (.t 21), none⟩,
              ⟨(some 23), .mn [(.t 18), (.t 22)], none⟩,
              ⟨(some 3), .mv (.t 23), none⟩]))
           (.reg none [⟨(some 16), .mv (.t 4), none⟩,
             ⟨(some 17), .bin .add (.t 16) (.c (.int .i64 1)), none⟩,
             ⟨(some 4), .mv (.t 17), none⟩]))))))
      (.seq
       (.reg none [⟨(some 24), .mv (.t 3), none⟩,
         ⟨(some 2), .mv (.t 24), none⟩])
       .ret))))) }
theorem f32P : prepF C Try.f32 = some f32A := by kernel_rfl

/-- congou/counts.frac -/
def f33A : AFunc :=
{ nargs := 2, res := [.c 4 (some 2)], body :=
  (.seq
   (.reg none [⟨(some 4), .alloc [(.int .i64 0), (.int .i64 0)], none⟩])
   (.seq
    (.reg none [⟨(some 6), .mv (.t 0), none⟩,
      ⟨(some 7), .mv (.t 1), none⟩,
      ⟨(some 8), .call 48 [(.t 6), (.t 7)], none⟩,
      ⟨(some 5), .mv (.t 8), none⟩])
    (.seq
     (.reg (some []) [⟨(some 9), .mv (.t 0), none⟩,
       ⟨(some 10), .mv (.t 5), none⟩,
       ⟨(some 11), .bin .quo (.t 9) (.t 10), none⟩,
       ⟨(some 12), .mv (.t 1), none⟩,
       ⟨(some 13), .mv (.t 5), none⟩,
       ⟨(some 14), .bin .quo (.t 12) (.t 13), none⟩,
       ⟨(some 15), .build [(.int .i64 0), (.int .i64 0)] [(0, 1, (.t 11)), (1, 1, (.t 14))], none⟩,
       ⟨none, .store 2 (.t 4) (.t 15), none⟩])
     .ret))) }
theorem f33P : prepF C Try.f33 = some f33A := by kernel_rfl

/-- congou/counts.plus -/
def f34A : AFunc :=
{ nargs := 2, res := [.c 4 (some 2)], body :=
  (.seq
   (.reg none [⟨(some 2), .box (.t 0), none⟩,
     ⟨(some 3), .box (.t 1), none⟩,
     ⟨(some 4), .alloc [(.int .i64 0), (.int .i64 0)], none⟩])
   (.seq
    (.reg none [⟨(some 6), .faddr 1 (.t 2), none⟩,
      ⟨(some 7), .load none (.t 6), none⟩,
      ⟨(some 8), .faddr 1 (.t 3), none⟩,
      ⟨(some 9), .load none (.t 8), none⟩,
      ⟨(some 10), .call 48 [(.t 7), (.t 9)], none⟩,
      ⟨(some 5), .mv (.t 10), none⟩])
    (.seq
     (.reg (some []) [⟨(some 11), .faddr 0 (.t 2), none⟩,
       ⟨(some 12), .load none (.t 11), none⟩,
       ⟨(some 13), .faddr 1 (.t 3), none⟩,
       ⟨(some 14), .load none (.t 13), none⟩,
       ⟨(some 15), .mv (.t 5), none⟩,
       ⟨(some 16), .bin .quo (.t 14) (.t 15), none⟩,
       ⟨(some 17), .bin .mul (.t 12) (.t 16), none⟩,
       ⟨(some 18), .faddr 0 (.t 3), none⟩,
       ⟨(some 19), .load none (.t 18), none⟩,
       ⟨(some 20), .faddr 1 (.t 2), none⟩,
       ⟨(some 21), .load none (.t 20), none⟩,
       ⟨(some 22), .mv (.t 5), none⟩,
       ⟨(some 23), .bin .quo (.t 21) (.t 22), none⟩,
       ⟨(some 24), .bin .mul (.t 19) (.t 23), none⟩,
       ⟨(some 25), .bin .add (.t 17) (.t 24), none⟩,
       ⟨(some 26), .faddr 1 (.t 2), none⟩,
       ⟨(some 27), .load none (.t 26), none⟩,
       ⟨(some 28), .mv (.t 5), none⟩,
       ⟨(some 29), .bin .quo (.t 27) (.t 28), none⟩,
       ⟨(some 30), .faddr 1 (.t 3), none⟩,
       ⟨(some 31), .load none (.t 30), none⟩,
       ⟨(some 32), .bin .mul (.t 29) (.t 31), none⟩,
       ⟨(some 33), .call 33 [(.t 25), (.t 32)], none⟩,
       ⟨none, .store 2 (.t 4) (.t 33), none⟩])
     .ret))) }
theorem f34P : prepF C Try.f34 = some f34A := by kernel_rfl

/-- (congou/counts.table).weight -/
def f35A : AFunc :=
{ nargs := 1, res := [.t 2], body :=
  (.seq
   (.reg none [⟨(some 2), .mv (.c (.int .i64 0)), none⟩])
   (.seq
    (.reg none [⟨(some 3), .mv (.c (.int .i64 1)), none⟩])
    (.seq
     (.seq
      (.reg none [⟨(some 6), .mv (.t 0), none⟩,
        ⟨(some 7), .len (.t 6), none⟩,
        ⟨(some 8), .mv (.c (.int .i64 0)), none⟩])
      (.block 0
       (.loop
        (.seq
         (.reg none [⟨(some 9), .bin .lss (.t 8) (.t 7), none⟩])
         (.seq
          (.cond (.t 9)
           .skip
           (.exit 0))
          (.seq
           (.block 1
            (.seq
             (.reg none [⟨(some 10), .iaddr 1 (.t 6) (.t 8), none⟩,
               ⟨(some 11), .load none (.t 10), none⟩,
               ⟨(some 5), .mv (.t 11), none⟩])
             (.reg none [⟨(some 12), .mv (.t 3), none⟩,
               ⟨(some 13), .mv (.t 5), none⟩,
               ⟨(some 14), .call 38 [(.t 13)], none⟩,
               ⟨(some 15), .bin .mul (.t 12) (.t 14), none⟩,
               ⟨(some 3), .mv (.t 15), none⟩])))
           (.reg none [⟨(some 16), .bin .add (.t 8) (.c (.int .i64 1)), none⟩,
             ⟨(some 8), .mv (.t 16), none⟩])))))))
     (.seq
      (.reg none [⟨(some 17), .mv (.t 3), none⟩,
        ⟨(some 2), .mv (.t 17), none⟩])
      .ret)))) }
theorem f35P : prepF C Try.f35 = some f35A := by kernel_rfl

/-- (congou/counts.table).family -/
def f36A : AFunc :=
{ nargs := 1, res := [.c 2 (some 2)], body :=
  (.seq
   (.reg none [⟨(some 2), .alloc [.nils, .nils], none⟩])
   (.seq
    (.reg none [⟨(some 6), .mv (.t 0), none⟩,
      ⟨(some 7), .call 22 [(.t 6)], none⟩,
      ⟨(some 5), .mv (.t 7), none⟩,
      ⟨(some 8), .extr (.t 5) 0, none⟩,
      ⟨(some 9), .extr (.t 5) 1, none⟩,
      ⟨(some 3), .mv (.t 8), none⟩,
      ⟨(some 4), .mv (.t 9), none⟩])
    (.seq
     (.reg none [⟨(some 10), .mv (.t 3), none⟩,
       ⟨(some 11), .mv (.t 4), none⟩,
       ⟨(some 12), .build [.nils, .nils] [(0, 1, (.t 10)), (1, 1, (.t 11))], none⟩,
       ⟨none, .store 2 (.t 2) (.t 12), none⟩])
     .ret))) }
theorem f36P : prepF C Try.f36 = some f36A := by kernel_rfl

/-- (congou/counts.margins).all -/
def f37A : AFunc :=
{ nargs := 2, res := [], body :=
  (.seq
   (.reg none [⟨(some 2), .box (.t 0), none⟩,
     ⟨(some 3), .box (.t 1), none⟩])
   (.seq
    (.reg none [⟨(some 8), .faddr 0 (.t 2), none⟩,
      ⟨(some 9), .load none (.t 8), none⟩,
      ⟨(some 10), .len (.t 9), none⟩,
      ⟨(some 11), .mkslice 1 24 [.nils] (.t 10), none⟩,
      ⟨(some 4), .alloc [.nils], none⟩,
      ⟨none, .store 1 (.t 4) (.t 11), none⟩])
    (.seq
     (.seq
      (.reg none [⟨(some 12), .load none (.t 4), none⟩,
        ⟨(some 13), .len (.t 12), none⟩,
        ⟨(some 14), .mv (.c (.int .i64 0)), none⟩])
      (.block 0
       (.loop
        (.seq
         (.reg none [⟨(some 15), .bin .lss (.t 14) (.t 13), none⟩])
         (.seq
          (.cond (.t 15)
           .skip
           (.exit 0))
          (.seq
           (.block 1
            (.seq
             (.reg none [⟨(some 16), .mv (.t 14), none⟩,
               ⟨(some 5), .mv (.t 16), none⟩])
             (.reg (some []) [⟨(some 17), .load none (.t 4), none⟩,
               ⟨(some 18), .mv (.t 5), none⟩,
               ⟨(some 19), .faddr 1 (.t 2), none⟩,
               ⟨(some 20), .load none (.t 19), none⟩,
               ⟨(some 21), .len (.t 20), none⟩,
               ⟨(some 22), .mkslice 1 8 [(.int .i64 0)] (.t 21), none⟩,
               ⟨(some 23), .iaddr 1 (.t 17) (.t 18), none⟩,
               ⟨none, .store 1 (.t 23) (.t 22), none⟩])))
           (.reg none [⟨(some 24), .bin .add (.t 14) (.c (.int .i64 1)), none⟩,
             ⟨(some 14), .mv (.t 24), none⟩])))))))
     (.seq
      (.reg none [⟨(some 25), .faddr 1 (.t 2), none⟩,
        ⟨(some 26), .load none (.t 25), none⟩,
        ⟨(some 27), .call 18 [(.t 26)], none⟩,
        ⟨(some 6), .alloc [.nils], none⟩,
        ⟨none, .store 1 (.t 6) (.t 27), none⟩])
      (.seq
       (.reg none [⟨(some 7), .alloc [.nilf], none⟩])
       (.seq
        (.reg none [⟨(some 28), .mkfn 49 [] [(.t 2), (.t 6), (.t 3), (.t 4), (.t 7)], none⟩,
          ⟨none, .store 1 (.t 7) (.t 28), none⟩])
        (.reg (some []) [⟨(some 29), .load none (.t 7), none⟩,
          ⟨(some 30), .faddr 0 (.t 2), none⟩,
          ⟨(some 31), .load none (.t 30), none⟩,
          ⟨(some 32), .iaddr 1 (.t 31) (.c (.int .i64 0)), none⟩,
          ⟨(some 33), .load none (.t 32), none⟩,
          ⟨(some 34), .callv (.t 29) [(.c (.int .i64 0)), (.c (.int .i64 0)), (.t 33)], none⟩]))))))) }
theorem f37P : prepF C Try.f37 = some f37A := by kernel_rfl

/-- congou/counts.choose -/
def f38A : AFunc :=
{ nargs := 1, res := [.t 2], body :=
  (.seq
   (.reg none [⟨(some 2), .mv (.c (.int .i64 0)), none⟩])
   (.seq
    (.reg none [⟨(some 3), .mv (.c (.int .i64 1)), none⟩,
      ⟨(some 4), .mv (.c (.int .i64 0)), none⟩])
    (.seq
     (.seq
      (.reg none [⟨(some 8), .mv (.t 0), none⟩,
        ⟨(some 9), .len (.t 8), none⟩,
        ⟨(some 10), .mv (.c (.int .i64 0)), none⟩])
      (.block 0
       (.loop
        (.seq
         (.reg none [⟨(some 11), .bin .lss (.t 10) (.t 9), none⟩])
         (.seq
          (.cond (.t 11)
           .skip
           (.exit 0))
          (.seq
           (.block 1
            (.seq
             (.reg none [⟨(some 12), .iaddr 1 (.t 8) (.t 10), none⟩,
               ⟨(some 13), .load none (.t 12), none⟩,
               ⟨(some 6), .mv (.t 13), none⟩])
             (.seq
              (.reg none [⟨(some 7), .mv (.c (.int .i64 1)), none⟩])
              (.block 2
               (.loop
                (.seq
                 (.seq
                  (.reg none [⟨(some 14), .mv (.t 7), none⟩,
                    ⟨(some 15), .mv (.t 6), none⟩,
                    ⟨(some 16), .bin .leq (.t 14) (.t 15), none⟩])
                  (.cond (.t 16)
                   .skip
                   (.exit 2)))
                 (.seq
                  (.block 3
                   (.seq
                    (.reg none [⟨(some 19), .mv (.t 4), none⟩,
                      ⟨(some 20), .bin .add (.t 19) (.c (.int .i64 1)), none⟩,
                      ⟨(some 4), .mv (.t 20), none⟩])
                    (.reg none [⟨(some 21), .mv (.t 3), none⟩,
                      ⟨(some 22), .mv (.t 4), none⟩,
                      ⟨(some 23), .bin .mul (.t 21) (.t 22), none⟩,
                      ⟨(some 24), .mv (.t 7), none⟩,
                      ⟨(some 25), .bin .quo (.t 23) (.t 24), none⟩,
                      ⟨(some 3), .mv (.t 25), none⟩])))
                  (.reg none [⟨(some 17), .mv (.t 7), none⟩,
                    ⟨(some 18), .bin .add (.t 17) (.c (.int .i64 1)), none⟩,
                    ⟨(some 7), .mv (.t 18), none⟩]))))))))
           (.reg none [⟨(some 26), .bin .add (.t 10) (.c (.int .i64 1)), none⟩,
             ⟨(some 10), .mv (.t 26), none⟩])))))))
     (.seq
      (.reg none [⟨(some 27), .mv (.t 3), none⟩,
        ⟨(some 2), .mv (.t 27), none⟩])
      .ret)))) }
theorem f38P : prepF C Try.f38 = some f38A := by kernel_rfl

/-- congou/counts.isSums -/
def f39A : AFunc :=
{ nargs := 1, res := [.t 2], body :=
  (.seq
   (.reg none [⟨(some 2), .mv (.c (.b false)), none⟩])
   (.seq
    (.reg none [⟨(some 3), .mv (.c (.int .i64 0)), none⟩])
    (.seq
     (.seq
      (.reg none [⟨(some 6), .mv (.t 0), none⟩,
        ⟨(some 7), .len (.t 6), none⟩,
        ⟨(some 8), .mv (.c (.int .i64 0)), none⟩])
      (.block 0
       (.loop
        (.seq
         (.reg none [⟨(some 9), .bin .lss (.t 8) (.t 7), none⟩])
         (.seq
          (.cond (.t 9)
           .skip
           (.exit 0))
          (.seq
           (.block 1
            (.seq
             (.reg none [⟨(some 10), .iaddr 1 (.t 6) (.t 8), none⟩,
               ⟨(some 11), .load none (.t 10), none⟩,
               ⟨(some 5), .mv (.t 11), none⟩])
             (.seq
              (.seq
               (.reg none [⟨(some 12), .mv (.t 5), none⟩,
                 ⟨(some 13), .bin .lss (.t 12) (.c (.int .i64 0)), none⟩,
                 ⟨(some 14), .mv (.t 13), none⟩,
                 ⟨(some 15), .mv (.t 5), some (14, false)⟩,
                 ⟨(some 16), .bin .gtr (.t 15) (.c (.int .i64 16)), some (14, false)⟩,
                 ⟨(some 17), .pick (.t 14) (.c (.b true)) (.t 16), none⟩])
               (.cond (.t 17)
                (.seq
                 (.reg none [⟨(some 2), .mv (.c (.b false)), none⟩])
                 .ret)
                .skip))
              (.reg none [⟨(some 18), .mv (.t 3), none⟩,
                ⟨(some 19), .mv (.t 5), none⟩,
                ⟨(some 20), .bin .add (.t 18) (.t 19), none⟩,
                ⟨(some 3), .mv (.t 20), none⟩]))))
           (.reg none [⟨(some 21), .bin .add (.t 8) (.c (.int .i64 1)), none⟩,
             ⟨(some 8), .mv (.t 21), none⟩])))))))
     (.seq
      (.reg none [⟨(some 22), .mv (.t 3), none⟩,
        ⟨(some 23), .bin .leq (.t 22) (.c (.int .i64 16)), none⟩,
        ⟨(some 2), .mv (.t 23), none⟩])
      .ret)))) }
theorem f39P : prepF C Try.f39 = some f39A := by kernel_rfl

/-- (congou/arrays.Array).valid -/
def f45A : AFunc :=
{ nargs := 1, res := [.t 2], body :=
  (.seq
   (.reg none [⟨(some 1), .box (.t 0), none⟩,
     ⟨(some 2), .mv (.c (.b false)), none⟩])
   (.seq
    (.seq
     (.reg none [⟨(some 5), .faddr 0 (.t 1), none⟩,
       ⟨(some 6), .load none (.t 5), none⟩,
       ⟨(some 7), .bin .lss (.t 6) (.c (.int .i64 2)), none⟩,
       ⟨(some 8), .mv (.t 7), none⟩,
       ⟨(some 9), .faddr 0 (.t 1), some (8, false)⟩,
       ⟨(some 10), .load none (.t 9), some (8, false)⟩,
       ⟨(some 11), .bin .gtr (.t 10) (.c (.int .i64 4)), some (8, false)⟩,
       ⟨(some 12), .pick (.t 8) (.c (.b true)) (.t 11), none⟩,
       ⟨(some 13), .mv (.t 12), none⟩,
       ⟨(some 14), .faddr 1 (.t 1), some (13, false)⟩,
       ⟨(some 15), .load none (.t 14), some (13, false)⟩,
       ⟨(some 16), .len (.t 15), some (13, false)⟩,
       ⟨(some 17), .bin .lss (.t 16) (.c (.int .i64 1)), some (13, false)⟩,
       ⟨(some 18), .pick (.t 13) (.c (.b true)) (.t 17), none⟩,
       ⟨(some 19), .mv (.t 18), none⟩,
       ⟨(some 20), .faddr 1 (.t 1), some (19, false)⟩,
       ⟨(some 21), .load none (.t 20), some (19, false)⟩,
       ⟨(some 22), .len (.t 21), some (19, false)⟩,
       ⟨(some 23), .bin .gtr (.t 22) (.c (.int .i64 16)), some (19, false)⟩,
       ⟨(some 24), .pick (.t 19) (.c (.b true)) (.t 23), none⟩])
     (.cond (.t 24)
      (.seq
       (.reg none [⟨(some 2), .mv (.c (.b false)), none⟩])
       .ret)
      .skip))
    (.seq
     (.seq
      (.reg none [⟨(some 25), .faddr 1 (.t 1), none⟩,
        ⟨(some 26), .load none (.t 25), none⟩,
        ⟨(some 27), .len (.t 26), none⟩,
        ⟨(some 28), .mv (.c (.int .i64 0)), none⟩])
      (.block 0
       (.loop
        (.seq
         (.reg none [⟨(some 29), .bin .lss (.t 28) (.t 27), none⟩])
         (.seq
          (.cond (.t 29)
           .skip
           (.exit 0))
          (.seq
           (.block 1
            (.seq
             (.reg none [⟨(some 30), .iaddr 1 (.t 26) (.t 28), none⟩,
               ⟨(some 31), .load none (.t 30), none⟩,
               ⟨(some 4), .mv (.t 31), none⟩])
             (.seq
              (.reg (some []) [⟨(some 32), .mv (.t 4), none⟩,
                ⟨(some 33), .len (.t 32), none⟩,
                ⟨(some 34), .bin .lss (.t 33) (.c (.int .i64 1)), none⟩,
                ⟨(some 35), .mv (.t 34), none⟩,
                ⟨(some 36), .mv (.t 4), some (35, false)⟩,
                ⟨(some 37), .len (.t 36), some (35, false)⟩,
                ⟨(some 38), .bin .gtr (.t 37) (.c (.int .i64 8)), some (35, false)⟩,
                ⟨(some 39), .pick (.t 35) (.c (.b true)) (.t 38), none⟩,
                ⟨(some 40), .mv (.t 39), none⟩,
                ⟨(some 41), .mv (.t 4), some (40, false)⟩,
                ⟨(some 42), .len (.t 41), some (40, false)⟩,
                ⟨(some 43), .faddr 1 (.t 1), some (40, false)⟩,
                ⟨(some 44), .load none (.t 43), some (40, false)⟩,
                ⟨(some 45), .iaddr 1 (.t 44) (.c (.int .i64 0)), some (40, false)⟩,
                ⟨(some 46), .load none (.t 45), some (40, false)⟩,
                ⟨(some 47), .len (.t 46), some (40, false)⟩,
                ⟨(some 48), .bin .neq (.t 42) (.t 47), some (40, false)⟩,
                ⟨(some 49), .pick (.t 40) (.c (.b true)) (.t 48), none⟩,
                ⟨(some 50), .mv (.t 49), none⟩,
                ⟨(some 51), .mv (.t 4), some (50, false)⟩,
                ⟨(some 52), .call 32 [(.t 51)], some (50, false)⟩,
                ⟨(some 53), .bin .lss (.t 52) (.c (.int .i64 0)), some (50, false)⟩,
                ⟨(some 54), .pick (.t 50) (.c (.b true)) (.t 53), none⟩,
                ⟨(some 55), .mv (.t 54), none⟩,
                ⟨(some 56), .mv (.t 4), some (55, false)⟩,
                ⟨(some 57), .call 50 [(.t 56)], some (55, false)⟩,
                ⟨(some 58), .faddr 0 (.t 1), some (55, false)⟩,
                ⟨(some 59), .load none (.t 58), some (55, false)⟩,
                ⟨(some 60), .bin .geq (.t 57) (.t 59), some (55, false)⟩,
                ⟨(some 61), .pick (.t 55) (.c (.b true)) (.t 60), none⟩])
              (.cond (.t 61)
               (.seq
                (.reg none [⟨(some 2), .mv (.c (.b false)), none⟩])
                .ret)
               .skip))))
           (.reg none [⟨(some 62), .bin .add (.t 28) (.c (.int .i64 1)), none⟩,
             ⟨(some 28), .mv (.t 62), none⟩])))))))
     (.seq
      (.reg none [⟨(some 2), .mv (.c (.b true)), none⟩])
      .ret)))) }
theorem f45P : prepF C Try.f45 = some f45A := by kernel_rfl

/-- (congou/arrays.Array).columns -/
def f46A : AFunc :=
{ nargs := 1, res := [.t 2], body :=
  (.seq
   (.reg none [⟨(some 1), .box (.t 0), none⟩,
     ⟨(some 2), .mv (.c (.int .i64 0)), none⟩])
   (.seq
    (.reg none [⟨(some 3), .faddr 1 (.t 1), none⟩,
      ⟨(some 4), .load none (.t 3), none⟩,
      ⟨(some 5), .iaddr 1 (.t 4) (.c (.int .i64 0)), none⟩,
      ⟨(some 6), .load none (.t 5), none⟩,
      ⟨(some 7), .len (.t 6), none⟩,
      ⟨(some 2), .mv (.t 7), none⟩])
    .ret)) }
theorem f46P : prepF C Try.f46 = some f46A := by kernel_rfl

/-- (congou/arrays.Array).all -/
def f47A : AFunc :=
{ nargs := 2, res := [.t 4], body :=
  (.seq
   (.reg none [⟨(some 2), .box (.t 0), none⟩,
     ⟨(some 3), .box (.t 1), none⟩,
     ⟨(some 4), .mv (.c .nilf), none⟩])
   (.seq
    (.reg none [⟨(some 5), .mkfn 56 [] [(.t 3), (.t 2)], none⟩,
      ⟨(some 4), .mv (.t 5), none⟩])
    .ret)) }
theorem f47P : prepF C Try.f47 = some f47A := by kernel_rfl

/-- congou/counts.gcd -/
def f48A : AFunc :=
{ nargs := 2, res := [.t 4], body :=
  (.seq
   (.reg none [⟨(some 4), .mv (.c (.int .i64 0)), none⟩])
   (.seq
    (.block 0
     (.loop
      (.seq
       (.seq
        (.reg none [⟨(some 5), .mv (.t 1), none⟩,
          ⟨(some 6), .bin .neq (.t 5) (.c (.int .i64 0)), none⟩])
        (.cond (.t 6)
         .skip
         (.exit 0)))
       (.block 1
        (.reg (some []) [⟨(some 7), .mv (.t 1), none⟩,
          ⟨(some 8), .mv (.t 0), none⟩,
          ⟨(some 9), .mv (.t 1), none⟩,
          ⟨(some 10), .bin .rem (.t 8) (.t 9), none⟩,
          ⟨(some 0), .mv (.t 7), none⟩,
          ⟨(some 1), .mv (.t 10), none⟩])))))
    (.seq
     (.reg none [⟨(some 11), .mv (.t 0), none⟩,
       ⟨(some 12), .mv (.t 0), none⟩,
       ⟨(some 13), .un .neg (.t 12), none⟩,
       ⟨(some 14), .mx [(.t 11), (.t 13)], none⟩,
       ⟨(some 4), .mv (.t 14), none⟩])
     .ret))) }
theorem f48P : prepF C Try.f48 = some f48A := by kernel_rfl

/-- (congou/counts.margins).all$1 -/
def f49A : AFunc :=
{ nargs := 8, res := [.t 11], body :=
  (.seq
   (.reg none [⟨(some 11), .mv (.c (.b false)), none⟩])
   (.seq
    (.block 0
     (.seq
      (.reg none [⟨(some 15), .mv (.t 0), none⟩,
        ⟨(some 16), .faddr 0 (.t 3), none⟩,
        ⟨(some 17), .load none (.t 16), none⟩,
        ⟨(some 18), .len (.t 17), none⟩,
        ⟨(some 19), .bin .eql (.t 15) (.t 18), none⟩,
        ⟨(some 14), .mv (.t 19), none⟩])
      (.cond (.t 14)
       (.seq
        (.reg (some []) [⟨(some 20), .load none (.t 4), none⟩,
          ⟨(some 21), .call 50 [(.t 20)], none⟩,
          ⟨(some 22), .bin .gtr (.t 21) (.c (.int .i64 0)), none⟩,
          ⟨(some 23), .mv (.t 22), none⟩,
          ⟨(some 24), .load none (.t 5), some (23, false)⟩,
          ⟨(some 25), .load none (.t 6), some (23, false)⟩,
          ⟨(some 26), .call 51 [(.t 25)], some (23, false)⟩,
          ⟨(some 27), .callv (.t 24) [(.t 26)], some (23, false)⟩,
          ⟨(some 28), .pick (.t 23) (.c (.b true)) (.t 27), none⟩,
          ⟨(some 11), .mv (.t 28), none⟩])
        .ret)
       (.seq
        (.reg none [⟨(some 30), .mv (.t 1), none⟩,
          ⟨(some 31), .faddr 1 (.t 3), none⟩,
          ⟨(some 32), .load none (.t 31), none⟩,
          ⟨(some 33), .len (.t 32), none⟩,
          ⟨(some 34), .bin .eql (.t 30) (.t 33), none⟩,
          ⟨(some 29), .mv (.t 34), none⟩])
        (.cond (.t 29)
         (.seq
          (.seq
           (.reg none [⟨(some 35), .mv (.t 2), none⟩,
             ⟨(some 36), .bin .gtr (.t 35) (.c (.int .i64 0)), none⟩])
           (.cond (.t 36)
            (.seq
             (.reg none [⟨(some 11), .mv (.c (.b true)), none⟩])
             .ret)
            .skip))
          (.seq
           (.seq
            (.reg none [⟨(some 37), .mv (.t 0), none⟩,
              ⟨(some 38), .bin .add (.t 37) (.c (.int .i64 1)), none⟩,
              ⟨(some 39), .faddr 0 (.t 3), none⟩,
              ⟨(some 40), .load none (.t 39), none⟩,
              ⟨(some 41), .len (.t 40), none⟩,
              ⟨(some 42), .bin .eql (.t 38) (.t 41), none⟩])
            (.cond (.t 42)
             (.seq
              (.reg none [⟨(some 43), .load none (.t 7), none⟩,
                ⟨(some 44), .mv (.t 0), none⟩,
                ⟨(some 45), .bin .add (.t 44) (.c (.int .i64 1)), none⟩,
                ⟨(some 46), .callv (.t 43) [(.t 45), (.c (.int .i64 0)), (.c (.int .i64 0))], none⟩,
                ⟨(some 11), .mv (.t 46), none⟩])
              .ret)
             .skip))
           (.seq
            (.reg (some []) [⟨(some 47), .load none (.t 7), none⟩,
              ⟨(some 48), .mv (.t 0), none⟩,
              ⟨(some 49), .bin .add (.t 48) (.c (.int .i64 1)), none⟩,
              ⟨(some 50), .faddr 0 (.t 3), none⟩,
              ⟨(some 51), .load none (.t 50), none⟩,
              ⟨(some 52), .mv (.t 0), none⟩,
              ⟨(some 53), .bin .add (.t 52) (.c (.int .i64 1)), none⟩,
              ⟨(some 54), .iaddr 1 (.t 51) (.t 53), none⟩,
              ⟨(some 55), .load none (.t 54), none⟩,
              ⟨(some 56), .callv (.t 47) [(.t 49), (.c (.int .i64 0)), (.t 55)], none⟩,
              ⟨(some 11), .mv (.t 56), none⟩])
            .ret)))
         .skip)))))
    (.seq
     (.seq
      (.reg none [⟨(some 57), .mv (.t 2), none⟩,
        ⟨(some 58), .load none (.t 4), none⟩,
        ⟨(some 59), .mv (.t 1), none⟩,
        ⟨(some 60), .iaddr 1 (.t 58) (.t 59), none⟩,
        ⟨(some 61), .load none (.t 60), none⟩,
        ⟨(some 62), .mn [(.t 57), (.t 61)], none⟩,
        ⟨(some 63), .bin .add (.t 62) (.c (.int .i64 1)), none⟩,
        ⟨(some 64), .mv (.c (.int .i64 0)), none⟩])
      (.block 1
       (.loop
        (.seq
         (.reg none [⟨(some 65), .bin .lss (.t 64) (.t 63), none⟩])
         (.seq
          (.cond (.t 65)
           .skip
           (.exit 1))
          (.seq
           (.block 2
            (.seq
             (.reg none [⟨(some 66), .mv (.t 64), none⟩,
               ⟨(some 12), .mv (.t 66), none⟩])
             (.seq
              (.reg none [⟨(some 67), .load none (.t 6), none⟩,
                ⟨(some 68), .mv (.t 0), none⟩,
                ⟨(some 69), .iaddr 1 (.t 67) (.t 68), none⟩,
                ⟨(some 70), .load none (.t 69), none⟩,
                ⟨(some 71), .mv (.t 1), none⟩,
                ⟨(some 72), .mv (.t 12), none⟩,
                ⟨(some 73), .iaddr 1 (.t 70) (.t 71), none⟩,
                ⟨none, .store 1 (.t 73) (.t 72), none⟩])
              (.seq
               (.reg none [⟨(some 74), .load none (.t 4), none⟩,
                 ⟨(some 75), .mv (.t 1), none⟩,
                 ⟨(some 76), .iaddr 1 (.t 74) (.t 75), none⟩,
                 ⟨(some 77), .load none (.t 76), none⟩,
                 ⟨(some 78), .mv (.t 12), none⟩,
                 ⟨(some 79), .bin .sub (.t 77) (.t 78), none⟩,
                 ⟨(some 80), .iaddr 1 (.t 74) (.t 75), none⟩,
                 ⟨none, .store 1 (.t 80) (.t 79), none⟩])
               (.seq
                (.reg none [⟨(some 81), .load none (.t 7), none⟩,
                  ⟨(some 82), .mv (.t 0), none⟩,
                  ⟨(some 83), .mv (.t 1), none⟩,
                  ⟨(some 84), .bin .add (.t 83) (.c (.int .i64 1)), none⟩,
                  ⟨(some 85), .mv (.t 2), none⟩,
                  ⟨(some 86), .mv (.t 12), none⟩,
                  ⟨(some 87), .bin .sub (.t 85) (.t 86), none⟩,
                  ⟨(some 88), .callv (.t 81) [(.t 82), (.t 84), (.t 87)], none⟩,
                  ⟨(some 13), .mv (.t 88), none⟩])
                (.seq
                 (.reg none [⟨(some 89), .load none (.t 4), none⟩,
                   ⟨(some 90), .mv (.t 1), none⟩,
                   ⟨(some 91), .iaddr 1 (.t 89) (.t 90), none⟩,
                   ⟨(some 92), .load none (.t 91), none⟩,
                   ⟨(some 93), .mv (.t 12), none⟩,
                   ⟨(some 94), .bin .add (.t 92) (.t 93), none⟩,
                   ⟨(some 95), .iaddr 1 (.t 89) (.t 90), none⟩,
                   ⟨none, .store 1 (.t 95) (.t 94), none⟩])
                 (.seq
                  (.reg none [⟨(some 96), .mv (.t 13), none⟩,
                    ⟨(some 97), .un .not (.t 96), none⟩])
                  (.cond (.t 97)
                   (.seq
                    (.reg none [⟨(some 11), .mv (.c (.b false)), none⟩])
                    .ret)
                   .skip))))))))
           (.reg none [⟨(some 98), .bin .add (.t 64) (.c (.int .i64 1)), none⟩,
             ⟨(some 64), .mv (.t 98), none⟩])))))))
     (.seq
      (.reg none [⟨(some 11), .mv (.c (.b true)), none⟩])
      .ret)))) }
theorem f49P : prepF C Try.f49 = some f49A := by kernel_rfl

/-- slices.Max[[]int,int] -/
def f50A : AFunc :=
{ nargs := 1, res := [.t 2], body :=
  (.seq
   (.reg none [⟨(some 2), .mv (.c (.int .i64 0)), none⟩])
   (.seq
    (.seq
     (.reg none [⟨(some 5), .mv (.t 0), none⟩,
       ⟨(some 6), .len (.t 5), none⟩,
       ⟨(some 7), .bin .lss (.t 6) (.c (.int .i64 1)), none⟩])
     (.cond (.t 7)
      (.reg none [⟨(some 8), .bad, none⟩,
        ⟨none, .bad, none⟩])
      .skip))
    (.seq
     (.reg none [⟨(some 9), .mv (.t 0), none⟩,
       ⟨(some 10), .iaddr 1 (.t 9) (.c (.int .i64 0)), none⟩,
       ⟨(some 11), .load none (.t 10), none⟩,
       ⟨(some 3), .mv (.t 11), none⟩])
     (.seq
      (.seq
       (.reg none [⟨(some 4), .mv (.c (.int .i64 1)), none⟩])
       (.block 0
        (.loop
         (.seq
          (.seq
           (.reg none [⟨(some 12), .mv (.t 4), none⟩,
             ⟨(some 13), .mv (.t 0), none⟩,
             ⟨(some 14), .len (.t 13), none⟩,
             ⟨(some 15), .bin .lss (.t 12) (.t 14), none⟩])
           (.cond (.t 15)
            .skip
            (.exit 0)))
          (.seq
           (.block 1
            (.reg none [⟨(some 18), .mv (.t 3), none⟩,
              ⟨(some 19), .mv (.t 0), none⟩,
              ⟨(some 20), .mv (.t 4), none⟩,
              ⟨(some 21), .iaddr 1 (.t 19) (.t 20), none⟩,
              ⟨(some 22), .load none (.t 21), none⟩,
              ⟨(some 23), .mx [(.t 18), (.t 22)], none⟩,
              ⟨(some 3), .mv (.t 23), none⟩]))
           (.reg none [⟨(some 16), .mv (.t 4), none⟩,
             ⟨(some 17), .bin .add (.t 16) (.c (.int .i64 1)), none⟩,
             ⟨(some 4), .mv (.t 17), none⟩]))))))
      (.seq
       (.reg none [⟨(some 24), .mv (.t 3), none⟩,
         ⟨(some 2), .mv (.t 24), none⟩])
       .ret))))) }
theorem f50P : prepF C Try.f50 = some f50A := by kernel_rfl

/-- (congou/counts.table).clone -/
def f51A : AFunc :=
{ nargs := 1, res := [.t 2], body :=
  (.seq
   (.reg none [⟨(some 2), .mv (.c .nils), none⟩])
   (.seq
    (.reg none [⟨(some 3), .mv (.c .nils), none⟩])
    (.seq
     (.seq
      (.reg none [⟨(some 6), .mv (.t 0), none⟩,
        ⟨(some 7), .len (.t 6), none⟩,
        ⟨(some 8), .mv (.c (.int .i64 0)), none⟩])
      (.block 0
       (.loop
        (.seq
         (.reg none [⟨(some 9), .bin .lss (.t 8) (.t 7), none⟩])
         (.seq
          (.cond (.t 9)
           .skip
           (.exit 0))
          (.seq
           (.block 1
            (.seq
             (.reg none [⟨(some 10), .iaddr 1 (.t 6) (.t 8), none⟩,
               ⟨(some 11), .load none (.t 10), none⟩,
               ⟨(some 5), .mv (.t 11), none⟩])
             (.reg none [⟨(some 12), .mv (.t 3), none⟩,
               ⟨(some 13), .mv (.t 5), none⟩,
               ⟨(some 14), .call 18 [(.t 13)], none⟩,
               ⟨(some 15), .bslice [.nils] 1 1 [(0, (.t 14))], none⟩,
               ⟨(some 16), .append 1 24 (.t 12) (.t 15), none⟩,
               ⟨(some 3), .mv (.t 16), none⟩])))
           (.reg none [⟨(some 17), .bin .add (.t 8) (.c (.int .i64 1)), none⟩,
             ⟨(some 8), .mv (.t 17), none⟩])))))))
     (.seq
      (.reg none [⟨(some 18), .mv (.t 3), none⟩,
        ⟨(some 2), .mv (.t 18), none⟩])
      .ret)))) }
theorem f51P : prepF C Try.f51 = some f51A := by kernel_rfl

/-- (congou/arrays.Array).all$1 -/
def f56A : AFunc :=
{ nargs := 3, res := [], body :=
  (.seq
   (.reg none [⟨(some 3), .box (.t 0), none⟩])
   (.seq
    (.reg (some []) [⟨(some 6), .load none (.t 1), none⟩,
      ⟨(some 7), .load (some 2) (.t 2), none⟩,
      ⟨(some 8), .call 46 [(.t 7)], none⟩,
      ⟨(some 9), .call 57 [(.t 6), (.t 8), (.c (.b true))], none⟩])
    (.block 0
     (.rangeF 27 (.t 9) [10]
      (.reg none [⟨(some 4), .alloc [.nils], none⟩,
        ⟨none, .store 1 (.t 4) (.t 10), none⟩])
      (.block 1
       (.seq
        (.reg none [⟨(some 11), .load none (.t 1), none⟩,
          ⟨(some 12), .faddr 0 (.t 2), none⟩,
          ⟨(some 13), .load none (.t 12), none⟩,
          ⟨(some 14), .call 57 [(.t 11), (.t 13), (.c (.b false))], none⟩])
        (.block 2
         (.rangeF 27 (.t 14) [15]
          (.reg none [⟨(some 5), .mv (.t 15), none⟩])
          (.block 3
           (.seq
            (.reg (some []) [⟨(some 16), .load none (.t 3), none⟩,
              ⟨(some 17), .load none (.t 4), none⟩,
              ⟨(some 18), .mv (.t 5), none⟩,
              ⟨(some 19), .bslice [.nils] 2 1 [(0, (.t 17)), (1, (.t 18))], none⟩,
              ⟨(some 20), .call 58 [(.t 19)], none⟩,
              ⟨(some 21), .load (some 2) (.t 2), none⟩,
              ⟨(some 22), .load none (.t 4), none⟩,
              ⟨(some 23), .mv (.t 5), none⟩,
              ⟨(some 24), .call 59 [(.t 21), (.t 22), (.t 23)], none⟩,
              ⟨(some 25), .callv (.t 16) [(.t 20), (.t 24)], none⟩,
              ⟨(some 26), .un .not (.t 25), none⟩])
            (.cond (.t 26)
             .ret
             .skip))))))))))) }
theorem f56P : prepF C Try.f56 = some f56A := by kernel_rfl

/-- congou/arrays.tuples -/
def f57A : AFunc :=
{ nargs := 3, res := [.t 6], body :=
  (.seq
   (.reg none [⟨(some 3), .box (.t 0), none⟩,
     ⟨(some 4), .box (.t 1), none⟩,
     ⟨(some 5), .box (.t 2), none⟩,
     ⟨(some 6), .mv (.c .nilf), none⟩])
   (.seq
    (.reg none [⟨(some 7), .mkfn 62 [] [(.t 3), (.t 5), (.t 4)], none⟩,
      ⟨(some 6), .mv (.t 7), none⟩])
    .ret)) }
theorem f57P : prepF C Try.f57 = some f57A := by kernel_rfl

/-- slices.Concat[[]int,int] -/
def f58A : AFunc :=
{ nargs := 1, res := [.t 2], body :=
  (.seq
   (.reg none [⟨(some 2), .mv (.c .nils), none⟩])
   (.seq
    (.reg none [⟨(some 3), .mv (.c (.int .i64 0)), none⟩])
    (.seq
     (.seq
      (.reg none [⟨(some 9), .mv (.t 0), none⟩,
        ⟨(some 10), .len (.t 9), none⟩,
        ⟨(some 11), .mv (.c (.int .i64 0)), none⟩])
      (.block 0
       (.loop
        (.seq
         (.reg none [⟨(some 12), .bin .lss (.t 11) (.t 10), none⟩])
         (.seq
          (.cond (.t 12)
           .skip
           (.exit 0))
          (.seq
           (.block 1
            (.seq
             (.reg none [⟨(some 13), .iaddr 1 (.t 9) (.t 11), none⟩,
               ⟨(some 14), .load none (.t 13), none⟩,
               ⟨(some 5), .mv (.t 14), none⟩])
             (.seq
              (.reg none [⟨(some 15), .mv (.t 3), none⟩,
                ⟨(some 16), .mv (.t 5), none⟩,
                ⟨(some 17), .len (.t 16), none⟩,
                ⟨(some 18), .bin .add (.t 15) (.t 17), none⟩,
                ⟨(some 3), .mv (.t 18), none⟩])
              (.seq
               (.reg none [⟨(some 19), .mv (.t 3), none⟩,
                 ⟨(some 20), .bin .lss (.t 19) (.c (.int .i64 0)), none⟩])
               (.cond (.t 20)
                (.reg none [⟨(some 21), .bad, none⟩,
                  ⟨none, .bad, none⟩])
                .skip)))))
           (.reg none [⟨(some 22), .bin .add (.t 11) (.c (.int .i64 1)), none⟩,
             ⟨(some 11), .mv (.t 22), none⟩])))))))
     (.seq
      (.reg none [⟨(some 23), .mv (.t 3), none⟩,
        ⟨(some 24), .call 64 [(.c .nils), (.t 23)], none⟩,
        ⟨(some 6), .mv (.t 24), none⟩])
      (.seq
       (.seq
        (.reg none [⟨(some 25), .mv (.t 0), none⟩,
          ⟨(some 26), .len (.t 25), none⟩,
          ⟨(some 27), .mv (.c (.int .i64 0)), none⟩])
        (.block 2
         (.loop
          (.seq
           (.reg none [⟨(some 28), .bin .lss (.t 27) (.t 26), none⟩])
           (.seq
            (.cond (.t 28)
             .skip
             (.exit 2))
            (.seq
             (.block 3
              (.seq
               (.reg none [⟨(some 29), .iaddr 1 (.t 25) (.t 27), none⟩,
                 ⟨(some 30), .load none (.t 29), none⟩,
                 ⟨(some 8), .mv (.t 30), none⟩])
               (.reg none [⟨(some 31), .mv (.t 6), none⟩,
                 ⟨(some 32), .mv (.t 8), none⟩,
                 ⟨(some 33), .append 1 8 (.t 31) (.t 32), none⟩,
                 ⟨(some 6), .mv (.t 33), none⟩])))
             (.reg none [⟨(some 34), .bin .add (.t 27) (.c (.int .i64 1)), none⟩,
               ⟨(some 27), .mv (.t 34), none⟩])))))))
       (.seq
        (.reg none [⟨(some 35), .mv (.t 6), none⟩,
          ⟨(some 2), .mv (.t 35), none⟩])
        .ret)))))) }
theorem f58P : prepF C Try.f58 = some f58A := by kernel_rfl

/-- (congou/arrays.Array).often -/
def f59A : AFunc :=
{ nargs := 3, res := [.t 6], body :=
  (.seq
   (.reg none [⟨(some 3), .box (.t 0), none⟩,
     ⟨(some 6), .mv (.c (.int .i64 0)), none⟩])
   (.seq
    (.reg none [⟨(some 7), .mv (.c (.int .i64 0)), none⟩])
    (.seq
     (.seq
      (.reg none [⟨(some 10), .faddr 1 (.t 3), none⟩,
        ⟨(some 11), .load none (.t 10), none⟩,
        ⟨(some 12), .len (.t 11), none⟩,
        ⟨(some 13), .mv (.c (.int .i64 0)), none⟩])
      (.block 0
       (.loop
        (.seq
         (.reg none [⟨(some 14), .bin .lss (.t 13) (.t 12), none⟩])
         (.seq
          (.cond (.t 14)
           .skip
           (.exit 0))
          (.seq
           (.block 1
            (.seq
             (.reg none [⟨(some 15), .iaddr 1 (.t 11) (.t 13), none⟩,
               ⟨(some 16), .load none (.t 15), none⟩,
               ⟨(some 9), .mv (.t 16), none⟩])
             (.seq
              (.reg none [⟨(some 17), .mv (.t 9), none⟩,
                ⟨(some 18), .mv (.t 1), none⟩,
                ⟨(some 19), .mv (.t 2), none⟩,
                ⟨(some 20), .call 65 [(.t 17), (.t 18), (.t 19)], none⟩])
              (.cond (.t 20)
               (.reg none [⟨(some 21), .mv (.t 7), none⟩,
                 ⟨(some 22), .bin .add (.t 21) (.c (.int .i64 1)), none⟩,
                 ⟨(some 7), .mv (.t 22), none⟩])
               .skip))))
           (.reg none [⟨(some 23), .bin .add (.t 13) (.c (.int .i64 1)), none⟩,
             ⟨(some 13), .mv (.t 23), none⟩])))))))
     (.seq
      (.reg none [⟨(some 24), .mv (.t 7), none⟩,
        ⟨(some 6), .mv (.t 24), none⟩])
      .ret)))) }
theorem f59P : prepF C Try.f59 = some f59A := by kernel_rfl

/-- congou/arrays.tuples$1 -/
def f62A : AFunc :=
{ nargs := 4, res := [], body :=
  (.seq
   (.reg none [⟨(some 4), .box (.t 0), none⟩])
   (.seq
    (.reg none [⟨(some 5), .alloc [.nilf], none⟩])
    (.seq
     (.reg none [⟨(some 6), .mkfn 63 [] [(.t 1), (.t 4), (.t 2), (.t 3), (.t 5)], none⟩,
       ⟨none, .store 1 (.t 5) (.t 6), none⟩])
     (.reg none [⟨(some 7), .load none (.t 5), none⟩,
       ⟨(some 8), .callv (.t 7) [(.c .nils)], none⟩])))) }
theorem f62P : prepF C Try.f62 = some f62A := by kernel_rfl

/-- congou/arrays.tuples$1$1 -/
def f63A : AFunc :=
{ nargs := 6, res := [.t 7], body :=
  (.seq
   (.reg none [⟨(some 7), .mv (.c (.b false)), none⟩])
   (.seq
    (.seq
     (.reg none [⟨(some 10), .mv (.t 0), none⟩,
       ⟨(some 11), .len (.t 10), none⟩,
       ⟨(some 12), .load none (.t 1), none⟩,
       ⟨(some 13), .bin .eql (.t 11) (.t 12), none⟩])
     (.cond (.t 13)
      (.seq
       (.reg none [⟨(some 14), .load none (.t 2), none⟩,
         ⟨(some 15), .mv (.t 0), none⟩,
         ⟨(some 16), .callv (.t 14) [(.t 15)], none⟩,
         ⟨(some 7), .mv (.t 16), none⟩])
       .ret)
      .skip))
    (.seq
     (.reg none [⟨(some 8), .mv (.c (.int .i64 0)), none⟩])
     (.seq
      (.seq
       (.reg none [⟨(some 17), .load none (.t 3), none⟩,
         ⟨(some 18), .mv (.t 17), none⟩,
         ⟨(some 19), .mv (.t 0), some (18, true)⟩,
         ⟨(some 20), .len (.t 19), some (18, true)⟩,
         ⟨(some 21), .bin .gtr (.t 20) (.c (.int .i64 0)), some (18, true)⟩,
         ⟨(some 22), .pick (.t 18) (.t 21) (.c (.b false)), none⟩])
       (.cond (.t 22)
        (.reg none [⟨(some 23), .mv (.t 0), none⟩,
          ⟨(some 24), .mv (.t 0), none⟩,
          ⟨(some 25), .len (.t 24), none⟩,
          ⟨(some 26), .bin .sub (.t 25) (.c (.int .i64 1)), none⟩,
          ⟨(some 27), .iaddr 1 (.t 23) (.t 26), none⟩,
          ⟨(some 28), .load none (.t 27), none⟩,
          ⟨(some 29), .bin .add (.t 28) (.c (.int .i64 1)), none⟩,
          ⟨(some 8), .mv (.t 29), none⟩])
        .skip))
      (.seq
       (.seq
        (.reg none [⟨(some 30), .mv (.t 8), none⟩,
          ⟨(some 9), .mv (.t 30), none⟩])
        (.block 0
         (.loop
          (.seq
           (.seq
            (.reg none [⟨(some 31), .mv (.t 9), none⟩,
              ⟨(some 32), .load none (.t 4), none⟩,
              ⟨(some 33), .bin .lss (.t 31) (.t 32), none⟩])
            (.cond (.t 33)
             .skip
             (.exit 0)))
           (.seq
            (.block 1
             (.seq
              (.reg (some [(0, 9)]) [⟨(some 36), .load none (.t 5), none⟩,
                ⟨(some 37), .mv (.t 0), none⟩,
                ⟨(some 38), .mv (.t 0), none⟩,
                ⟨(some 39), .len (.t 38), none⟩,
                ⟨(some 40), .mv (.t 0), none⟩,
                ⟨(some 41), .len (.t 40), none⟩,
                ⟨(some 42), .slice 1 (.t 37) none (some (.t 39)) (some (.t 41)), none⟩,
                ⟨(some 43), .mv (.t 9), none⟩,
                ⟨(some 44), .bslice [(.int .i64 0)] 1 1 [(0, (.t 43))], none⟩,
                ⟨(some 45), .append 1 8 (.t 42) (.t 44), none⟩,
                ⟨(some 46), .callv (.t 36) [(.t 45)], none⟩,
                ⟨(some 47), .un .not (.t 46), none⟩])
              (.cond (.t 47)
               (.seq
                (.reg none [⟨(some 7), .mv (.c (.b false)), none⟩])
                .ret)
               .skip)))
            (.reg none [⟨(some 34), .mv (.t 9), none⟩,
              ⟨(some 35), .bin .add (.t 34) (.c (.int .i64 1)), none⟩,
              ⟨(some 9), .mv (.t 35), none⟩]))))))
       (.seq
        (.reg none [⟨(some 7), .mv (.c (.b true)), none⟩])
        .ret)))))) }
theorem f63P : prepF C Try.f63 = some f63A := by kernel_rfl

/-- slices.Grow[[]int,int] -/
def f64A : AFunc :=
{ nargs := 2, res := [.t 4], body :=
  (.seq
   (.reg none [⟨(some 4), .mv (.c .nils), none⟩])
   (.seq
    (.seq
     (.reg none [⟨(some 5), .mv (.t 1), none⟩,
       ⟨(some 6), .bin .lss (.t 5) (.c (.int .i64 0)), none⟩])
     (.cond (.t 6)
      (.reg none [⟨(some 7), .bad, none⟩,
        ⟨none, .bad, none⟩])
      .skip))
    (.seq
     (.seq
      (.reg none [⟨(some 8), .mv (.t 1), none⟩,
        ⟨(some 9), .mv (.t 0), none⟩,
        ⟨(some 10), .cap (.t 9), none⟩,
        ⟨(some 11), .mv (.t 0), none⟩,
        ⟨(some 12), .len (.t 11), none⟩,
        ⟨(some 13), .bin .sub (.t 10) (.t 12), none⟩,
        ⟨(some 14), .bin .sub (.t 8) (.t 13), none⟩,
        ⟨(some 1), .mv (.t 14), none⟩])
      (.seq
       (.reg none [⟨(some 15), .mv (.t 1), none⟩,
         ⟨(some 16), .bin .gtr (.t 15) (.c (.int .i64 0)), none⟩])
       (.cond (.t 16)
        (.reg none [⟨(some 17), .mv (.t 0), none⟩,
          ⟨(some 18), .mv (.t 0), none⟩,
          ⟨(some 19), .cap (.t 18), none⟩,
          ⟨(some 20), .slice 1 (.t 17) none (some (.t 19)) none, none⟩,
          ⟨(some 21), .mv (.t 1), none⟩,
          ⟨(some 22), .appendz 1 8 [(.int .i64 0)] (.t 20) (.t 21), none⟩,
          ⟨(some 23), .mv (.t 0), none⟩,
          ⟨(some 24), .len (.t 23), none⟩,
          ⟨(some 25), .slice 1 (.t 22) none (some (.t 24)) none, none⟩,
          ⟨(some 0), .mv (.t 25), none⟩])
        .skip)))
     (.seq
      (.reg none [⟨(some 26), .mv (.t 0), none⟩,
        ⟨(some 4), .mv (.t 26), none⟩])
      .ret)))) }
theorem f64P : prepF C Try.f64 = some f64A := by kernel_rfl

/-- congou/arrays.comes -/
def f65A : AFunc :=
{ nargs := 3, res := [.t 6], body :=
  (.seq
   (.reg none [⟨(some 6), .mv (.c (.b false)), none⟩])
   (.seq
    (.seq
     (.reg none [⟨(some 9), .mv (.t 1), none⟩,
       ⟨(some 10), .len (.t 9), none⟩,
       ⟨(some 11), .mv (.c (.int .i64 0)), none⟩])
     (.block 0
      (.loop
       (.seq
        (.reg none [⟨(some 12), .bin .lss (.t 11) (.t 10), none⟩])
        (.seq
         (.cond (.t 12)
          .skip
          (.exit 0))
         (.seq
          (.block 1
           (.seq
            (.reg none [⟨(some 13), .mv (.t 11), none⟩,
              ⟨(some 14), .iaddr 1 (.t 9) (.t 11), none⟩,
              ⟨(some 15), .load none (.t 14), none⟩,
              ⟨(some 7), .mv (.t 13), none⟩,
              ⟨(some 8), .mv (.t 15), none⟩])
            (.seq
             (.reg (some []) [⟨(some 16), .mv (.t 0), none⟩,
               ⟨(some 17), .mv (.t 8), none⟩,
               ⟨(some 18), .iaddr 1 (.t 16) (.t 17), none⟩,
               ⟨(some 19), .load none (.t 18), none⟩,
               ⟨(some 20), .mv (.t 2), none⟩,
               ⟨(some 21), .mv (.t 7), none⟩,
               ⟨(some 22), .iaddr 1 (.t 20) (.t 21), none⟩,
               ⟨(some 23), .load none (.t 22), none⟩,
               ⟨(some 24), .bin .neq (.t 19) (.t 23), none⟩])
             (.cond (.t 24)
              (.seq
               (.reg none [⟨(some 6), .mv (.c (.b false)), none⟩])
               .ret)
              .skip))))
          (.reg none [⟨(some 25), .bin .add (.t 11) (.c (.int .i64 1)), none⟩,
            ⟨(some 11), .mv (.t 25), none⟩])))))))
    (.seq
     (.reg none [⟨(some 6), .mv (.c (.b true)), none⟩])
     .ret))) }
theorem f65P : prepF C Try.f65 = some f65A := by kernel_rfl

end Go.Proofs.Ytmmbakggmlfffaa
