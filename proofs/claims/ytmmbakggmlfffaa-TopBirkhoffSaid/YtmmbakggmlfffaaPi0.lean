/- The abstract forms of the functions that are needed, each checked against the translation. No condition. -/
import Derived.Test.YtmmbakggmlfffaaAm1
import Derived.Test.YtmmbakggmlfffaaProg
namespace Go.Proofs.Ytmmbakggmlfffaa
open Go Go.AM Go.Proofs

/-- the seat's program; the types whose comparison is taken; the functions that may write to what is older -/
def kd : Nat → Kd := fun f => if [37, 49, 56, 62, 63].contains f then .wrt else if [8, 17].contains f then .closed else .ro
noncomputable def C : Cfg := { P := Try.prog, eqT := fun t => if t == 33 then some 2 else none, kd := kd }
/-- congou/congoutop.TopBirkhoff -/
def f3A : AFunc :=
{ nargs := 1, res := [.t 2], body :=
  (.seq
   (.reg none [⟨(some 2), .mv (.c (.b false)), none⟩])
   (.seq
    (.reg none [⟨(some 21), .mv (.t 0), none⟩,
      ⟨(some 22), .call 6 [(.t 21)], none⟩,
      ⟨(some 23), .call 5 [(.t 22)], none⟩,
      ⟨(some 20), .mv (.t 23), none⟩,
      ⟨(some 24), .extr (.t 20) 0, none⟩,
      ⟨(some 25), .extr (.t 20) 1, none⟩,
      ⟨(some 26), .extr (.t 20) 2, none⟩,
      ⟨(some 3), .mv (.t 24), none⟩,
      ⟨(some 4), .mv (.t 25), none⟩,
      ⟨(some 5), .mv (.t 26), none⟩])
    (.seq
     (.seq
      (.reg none [⟨(some 27), .mv (.t 5), none⟩,
        ⟨(some 28), .bin .neq (.t 27) (.c (.int .i64 0)), none⟩,
        ⟨(some 29), .mv (.t 28), none⟩,
        ⟨(some 30), .mv (.t 0), some (29, false)⟩,
        ⟨(some 31), .call 7 [(.t 30)], some (29, false)⟩,
        ⟨(some 32), .un .not (.t 31), some (29, false)⟩,
        ⟨(some 33), .pick (.t 29) (.c (.b true)) (.t 32), none⟩])
      (.cond (.t 33)
       (.seq
        (.reg none [⟨(some 34), .mv (.t 5), none⟩,
          ⟨(some 35), .bin .eql (.t 34) (.c (.int .i64 2)), none⟩,
          ⟨(some 36), .mv (.t 35), none⟩,
          ⟨(some 37), .call 8 [], some (36, true)⟩,
          ⟨(some 38), .pick (.t 36) (.t 37) (.c (.b false)), none⟩,
          ⟨(some 2), .mv (.t 38), none⟩])
        .ret)
       .skip))
     (.seq
      (.seq
       (.reg none [⟨(some 39), .mv (.t 3), none⟩,
         ⟨(some 40), .len (.t 39), none⟩,
         ⟨(some 41), .mv (.t 0), none⟩,
         ⟨(some 42), .len (.t 41), none⟩,
         ⟨(some 43), .bin .neq (.t 40) (.t 42), none⟩,
         ⟨(some 44), .mv (.t 43), none⟩,
         ⟨(some 45), .mv (.t 4), some (44, false)⟩,
         ⟨(some 46), .len (.t 45), some (44, false)⟩,
         ⟨(some 47), .mv (.t 0), some (44, false)⟩,
         ⟨(some 48), .iaddr 1 (.t 47) (.c (.int .i64 0)), some (44, false)⟩,
         ⟨(some 49), .load none (.t 48), some (44, false)⟩,
         ⟨(some 50), .len (.t 49), some (44, false)⟩,
         ⟨(some 51), .bin .neq (.t 46) (.t 50), some (44, false)⟩,
         ⟨(some 52), .pick (.t 44) (.c (.b true)) (.t 51), none⟩])
       (.cond (.t 52)
        (.seq
         (.reg none [⟨(some 2), .mv (.c (.b false)), none⟩])
         .ret)
        .skip))
      (.seq
       (.reg none [⟨(some 53), .mv (.t 3), none⟩,
         ⟨(some 54), .iaddr 1 (.t 53) (.c (.int .i64 0)), none⟩,
         ⟨(some 55), .load none (.t 54), none⟩,
         ⟨(some 6), .mv (.t 55), none⟩])
       (.seq
        (.reg none [⟨(some 56), .mv (.t 6), none⟩,
          ⟨(some 57), .bin .gtr (.t 56) (.c (.int .i64 0)), none⟩,
          ⟨(some 58), .mv (.t 57), none⟩,
          ⟨(some 59), .mv (.t 3), some (58, true)⟩,
          ⟨(some 60), .len (.t 59), some (58, true)⟩,
          ⟨(some 61), .mv (.t 4), some (58, true)⟩,
          ⟨(some 62), .len (.t 61), some (58, true)⟩,
          ⟨(some 63), .bin .eql (.t 60) (.t 62), some (58, true)⟩,
          ⟨(some 64), .pick (.t 58) (.t 63) (.c (.b false)), none⟩,
          ⟨(some 7), .mv (.t 64), none⟩])
        (.seq
         (.seq
          (.reg none [⟨(some 65), .mv (.t 3), none⟩,
            ⟨(some 66), .mv (.t 4), none⟩,
            ⟨(some 67), .append 1 8 (.t 65) (.t 66), none⟩,
            ⟨(some 68), .len (.t 67), none⟩,
            ⟨(some 69), .mv (.c (.int .i64 0)), none⟩])
          (.block 0
           (.loop
            (.seq
             (.reg none [⟨(some 70), .bin .lss (.t 69) (.t 68), none⟩])
             (.seq
              (.cond (.t 70)
               .skip
               (.exit 0))
              (.seq
               (.block 1
                (.seq
                 (.reg none [⟨(some 71), .iaddr 1 (.t 67) (.t 69), none⟩,
                   ⟨(some 72), .load none (.t 71), none⟩,
                   ⟨(some 9), .mv (.t 72), none⟩])
                 (.reg none [⟨(some 73), .mv (.t 7), none⟩,
                   ⟨(some 74), .mv (.t 73), none⟩,
                   ⟨(some 75), .mv (.t 9), some (74, true)⟩,
                   ⟨(some 76), .mv (.t 6), some (74, true)⟩,
                   ⟨(some 77), .bin .eql (.t 75) (.t 76), some (74, true)⟩,
                   ⟨(some 78), .pick (.t 74) (.t 77) (.c (.b false)), none⟩,
                   ⟨(some 7), .mv (.t 78), none⟩])))
               (.reg none [⟨(some 79), .bin .add (.t 69) (.c (.int .i64 1)), none⟩,
                 ⟨(some 69), .mv (.t 79), none⟩])))))))
         (.seq
          (.seq
           (.reg none [⟨(some 80), .mv (.t 7), none⟩,
             ⟨(some 81), .un .not (.t 80), none⟩])
           (.cond (.t 81)
            (.seq
             (.reg none [⟨(some 82), .call 8 [], none⟩,
               ⟨(some 2), .mv (.t 82), none⟩])
             .ret)
            .skip))
          (.seq
           (.reg none [⟨(some 10), .mv (.c .nils), none⟩,
             ⟨(some 11), .mv (.c .nils), none⟩])
           (.seq
            (.seq
             (.reg none [⟨(some 83), .mv (.t 0), none⟩,
               ⟨(some 84), .len (.t 83), none⟩,
               ⟨(some 85), .mv (.c (.int .i64 0)), none⟩])
             (.block 2
              (.loop
               (.seq
                (.reg none [⟨(some 86), .bin .lss (.t 85) (.t 84), none⟩])
                (.seq
                 (.cond (.t 86)
                  .skip
                  (.exit 2))
                 (.seq
                  (.block 3
                   (.seq
                    (.reg none [⟨(some 87), .iaddr 1 (.t 83) (.t 85), none⟩,
                      ⟨(some 88), .load none (.t 87), none⟩,
                      ⟨(some 13), .mv (.t 88), none⟩])
                    (.seq
                     (.reg none [⟨(some 14), .mv (.c .nils), none⟩])
                     (.seq
                      (.seq
                       (.reg none [⟨(some 89), .mv (.t 13), none⟩,
                         ⟨(some 90), .len (.t 89), none⟩,
                         ⟨(some 91), .mv (.c (.int .i64 0)), none⟩])
                       (.block 4
                        (.loop
                         (.seq
                          (.reg none [⟨(some 92), .bin .lss (.t 91) (.t 90), none⟩])
                          (.seq
                           (.cond (.t 92)
                            .skip
                            (.exit 4))
                           (.seq
                            (.block 5
                             (.seq
                              (.reg none [⟨(some 93), .iaddr 1 (.t 89) (.t 91), none⟩,
                                ⟨(some 94), .load none (.t 93), none⟩,
                                ⟨(some 16), .mv (.t 94), none⟩])
                              (.reg none [⟨(some 95), .mv (.t 14), none⟩,
                                ⟨(some 96), .mv (.t 16), none⟩,
                                ⟨(some 97), .mv (.t 6), none⟩,
                                ⟨(some 98), .call 9 [(.t 96), (.t 97)], none⟩,
                                ⟨(some 99), .bslice [(.int .i64 0), (.int .i64 0)] 1 2 [(0, (.t 98))], none⟩,
                                ⟨(some 100), .append 2 16 (.t 95) (.t 99), none⟩,
                                ⟨(some 14), .mv (.t 100), none⟩])))
                            (.reg none [⟨(some 101), .bin .add (.t 91) (.c (.int .i64 1)), none⟩,
                              ⟨(some 91), .mv (.t 101), none⟩])))))))
                      (.seq
                       (.reg none [⟨(some 102), .mv (.t 10), none⟩,
                         ⟨(some 103), .mv (.t 14), none⟩,
                         ⟨(some 104), .bslice [.nils] 1 1 [(0, (.t 103))], none⟩,
                         ⟨(some 105), .append 1 24 (.t 102) (.t 104), none⟩,
                         ⟨(some 10), .mv (.t 105), none⟩])
                       (.reg none [⟨(some 106), .mv (.t 11), none⟩,
                         ⟨(some 107), .mv (.t 14), none⟩,
                         ⟨(some 108), .call 10 [(.t 107)], none⟩,
                         ⟨(some 109), .bslice [.nils] 1 1 [(0, (.t 108))], none⟩,
                         ⟨(some 110), .append 1 24 (.t 106) (.t 109), none⟩,
                         ⟨(some 11), .mv (.t 110), none⟩]))))))
                  (.reg none [⟨(some 111), .bin .add (.t 85) (.c (.int .i64 1)), none⟩,
                    ⟨(some 85), .mv (.t 111), none⟩])))))))
            (.seq
             (.reg none [⟨(some 113), .mv (.t 10), none⟩,
               ⟨(some 114), .call 11 [(.t 113)], none⟩,
               ⟨(some 112), .mv (.t 114), none⟩,
               ⟨(some 115), .extr (.t 112) 0, none⟩,
               ⟨(some 116), .extr (.t 112) 1, none⟩,
               ⟨(some 117), .extr (.t 112) 2, none⟩,
               ⟨(some 17), .mv (.t 115), none⟩,
               ⟨(some 18), .mv (.t 116), none⟩,
               ⟨(some 5), .mv (.t 117), none⟩])
             (.seq
              (.seq
               (.reg none [⟨(some 118), .mv (.t 5), none⟩,
                 ⟨(some 119), .bin .neq (.t 118) (.c (.int .i64 0)), none⟩,
                 ⟨(some 120), .mv (.t 119), none⟩,
                 ⟨(some 121), .mv (.t 17), some (120, false)⟩,
                 ⟨(some 122), .len (.t 121), some (120, false)⟩,
                 ⟨(some 123), .mv (.t 18), some (120, false)⟩,
                 ⟨(some 124), .len (.t 123), some (120, false)⟩,
                 ⟨(some 125), .bin .neq (.t 122) (.t 124), some (120, false)⟩,
                 ⟨(some 126), .pick (.t 120) (.c (.b true)) (.t 125), none⟩,
                 ⟨(some 127), .mv (.t 126), none⟩,
                 ⟨(some 128), .mv (.t 17), some (127, false)⟩,
                 ⟨(some 129), .len (.t 128), some (127, false)⟩,
                 ⟨(some 130), .bin .lss (.t 129) (.c (.int .i64 1)), some (127, false)⟩,
                 ⟨(some 131), .pick (.t 127) (.c (.b true)) (.t 130), none⟩])
               (.cond (.t 131)
                (.seq
                 (.reg none [⟨(some 2), .mv (.c (.b false)), none⟩])
                 .ret)
                .skip))
              (.seq
               (.reg none [⟨(some 133), .mv (.t 11), none⟩,
                 ⟨(some 134), .mv (.t 17), none⟩,
                 ⟨(some 135), .mv (.t 18), none⟩,
                 ⟨(some 136), .call 12 [(.t 133), (.t 134), (.t 135)], none⟩,
                 ⟨(some 132), .mv (.t 136), none⟩,
                 ⟨(some 137), .extr (.t 132) 0, none⟩,
                 ⟨(some 138), .extr (.t 132) 1, none⟩,
                 ⟨(some 19), .mv (.t 137), none⟩,
                 ⟨(some 5), .mv (.t 138), none⟩])
               (.seq
                (.reg none [⟨(some 139), .mv (.t 19), none⟩,
                  ⟨(some 140), .mv (.t 139), none⟩,
                  ⟨(some 141), .mv (.t 5), some (140, true)⟩,
                  ⟨(some 142), .bin .eql (.t 141) (.c (.int .i64 0)), some (140, true)⟩,
                  ⟨(some 143), .pick (.t 140) (.t 142) (.c (.b false)), none⟩,
                  ⟨(some 144), .mv (.t 143), none⟩,
                  ⟨(some 145), .call 8 [], some (144, true)⟩,
                  ⟨(some 146), .pick (.t 144) (.t 145) (.c (.b false)), none⟩,
                  ⟨(some 2), .mv (.t 146), none⟩])
                .ret)))))))))))))) }
theorem f3P : prepF C Try.f3 = some f3A := by kernel_rfl

/-- congou/counts.Sums -/
def f5A : AFunc :=
{ nargs := 1, res := [.t 2, .t 3, .t 4], body :=
  (.seq
   (.reg none [⟨(some 2), .mv (.c .nils), none⟩,
     ⟨(some 3), .mv (.c .nils), none⟩,
     ⟨(some 4), .mv (.c (.int .i64 0)), none⟩])
   (.seq
    (.seq
     (.reg none [⟨(some 5), .mv (.t 0), none⟩,
       ⟨(some 6), .call 21 [(.t 5)], none⟩,
       ⟨(some 7), .un .not (.t 6), none⟩])
     (.cond (.t 7)
      (.seq
       (.reg none [⟨(some 2), .mv (.c .nils), none⟩,
         ⟨(some 3), .mv (.c .nils), none⟩,
         ⟨(some 4), .mv (.c (.int .i64 2)), none⟩])
       .ret)
      .skip))
    (.seq
     (.reg none [⟨(some 9), .mv (.t 0), none⟩,
       ⟨(some 10), .call 22 [(.t 9)], none⟩,
       ⟨(some 8), .mv (.t 10), none⟩,
       ⟨(some 11), .extr (.t 8) 0, none⟩,
       ⟨(some 12), .extr (.t 8) 1, none⟩,
       ⟨(some 2), .mv (.t 11), none⟩,
       ⟨(some 3), .mv (.t 12), none⟩])
     (.seq
      (.reg none [⟨(some 13), .mv (.t 2), none⟩,
        ⟨(some 14), .mv (.t 3), none⟩,
        ⟨(some 2), .mv (.t 13), none⟩,
        ⟨(some 3), .mv (.t 14), none⟩,
        ⟨(some 4), .mv (.c (.int .i64 0)), none⟩])
      .ret)))) }
theorem f5P : prepF C Try.f5 = some f5A := by kernel_rfl

/-- congou/congoutop.copied -/
def f6A : AFunc :=
{ nargs := 1, res := [.t 2], body :=
  (.seq
   (.reg none [⟨(some 2), .mv (.c .nils), none⟩])
   (.seq
    (.reg none [⟨(some 3), .mv (.c .nils), none⟩])
    (.seq
     (.seq
      (.reg none [⟨(some 6), .mv (.t 0), none⟩,
        ⟨(some 7), .len (.t 6), none⟩,
        ⟨(some 8), .mv (.c (.int .i64 0)), none⟩])
      (.block 0
       (.loop
        (.seq
         (.reg none [⟨(some 9), .bin .lss (.t 8) (.t 7), none⟩])
         (.seq
          (.cond (.t 9)
           .skip
           (.exit 0))
          (.seq
           (.block 1
            (.seq
             (.reg none [⟨(some 10), .mv (.t 8), none⟩,
               ⟨(some 11), .iaddr 1 (.t 6) (.t 8), none⟩,
               ⟨(some 12), .load none (.t 11), none⟩,
               ⟨(some 4), .mv (.t 10), none⟩,
               ⟨(some 5), .mv (.t 12), none⟩])
             (.seq
              (.reg none [⟨(some 13), .mv (.t 4), none⟩,
                ⟨(some 14), .bin .lss (.t 13) (.c (.int .i64 6)), none⟩])
              (.cond (.t 14)
               (.reg none [⟨(some 15), .mv (.t 3), none⟩,
                 ⟨(some 16), .mv (.t 5), none⟩,
                 ⟨(some 17), .mv (.t 5), none⟩,
                 ⟨(some 18), .len (.t 17), none⟩,
                 ⟨(some 19), .mn [(.t 18), (.c (.int .i64 6))], none⟩,
                 ⟨(some 20), .slice 1 (.t 16) none (some (.t 19)) none, none⟩,
                 ⟨(some 21), .call 18 [(.t 20)], none⟩,
                 ⟨(some 22), .bslice [.nils] 1 1 [(0, (.t 21))], none⟩,
                 ⟨(some 23), .append 1 24 (.t 15) (.t 22), none⟩,
                 ⟨(some 3), .mv (.t 23), none⟩])
               .skip))))
           (.reg none [⟨(some 24), .bin .add (.t 8) (.c (.int .i64 1)), none⟩,
             ⟨(some 8), .mv (.t 24), none⟩])))))))
     (.seq
      (.reg none [⟨(some 25), .mv (.t 3), none⟩,
        ⟨(some 2), .mv (.t 25), none⟩])
      .ret)))) }
theorem f6P : prepF C Try.f6 = some f6A := by kernel_rfl

/-- congou/congouref06.Table -/
def f7A : AFunc :=
{ nargs := 1, res := [.t 2], body :=
  (.seq
   (.reg none [⟨(some 2), .mv (.c (.b false)), none⟩])
   (.seq
    (.reg none [⟨(some 3), .mv (.c (.int .i64 0)), none⟩])
    (.seq
     (.seq
      (.reg none [⟨(some 8), .mv (.t 0), none⟩,
        ⟨(some 9), .len (.t 8), none⟩,
        ⟨(some 10), .mv (.c (.int .i64 0)), none⟩])
      (.block 0
       (.loop
        (.seq
         (.reg none [⟨(some 11), .bin .lss (.t 10) (.t 9), none⟩])
         (.seq
          (.cond (.t 11)
           .skip
           (.exit 0))
          (.seq
           (.block 1
            (.seq
             (.reg none [⟨(some 12), .iaddr 1 (.t 8) (.t 10), none⟩,
               ⟨(some 13), .load none (.t 12), none⟩,
               ⟨(some 5), .mv (.t 13), none⟩])
             (.seq
              (.seq
               (.reg none [⟨(some 14), .mv (.t 5), none⟩,
                 ⟨(some 15), .len (.t 14), none⟩,
                 ⟨(some 16), .mv (.t 0), none⟩,
                 ⟨(some 17), .iaddr 1 (.t 16) (.c (.int .i64 0)), none⟩,
                 ⟨(some 18), .load none (.t 17), none⟩,
                 ⟨(some 19), .len (.t 18), none⟩,
                 ⟨(some 20), .bin .neq (.t 15) (.t 19), none⟩,
                 ⟨(some 21), .mv (.t 20), none⟩,
                 ⟨(some 22), .mv (.t 5), some (21, false)⟩,
                 ⟨(some 23), .len (.t 22), some (21, false)⟩,
                 ⟨(some 24), .bin .lss (.t 23) (.c (.int .i64 1)), some (21, false)⟩,
                 ⟨(some 25), .pick (.t 21) (.c (.b true)) (.t 24), none⟩,
                 ⟨(some 26), .mv (.t 25), none⟩,
                 ⟨(some 27), .mv (.t 5), some (26, false)⟩,
                 ⟨(some 28), .len (.t 27), some (26, false)⟩,
                 ⟨(some 29), .bin .gtr (.t 28) (.c (.int .i64 3)), some (26, false)⟩,
                 ⟨(some 30), .pick (.t 26) (.c (.b true)) (.t 29), none⟩])
               (.cond (.t 30)
                (.seq
                 (.reg none [⟨(some 2), .mv (.c (.b false)), none⟩])
                 .ret)
                .skip))
              (.seq
               (.reg none [⟨(some 31), .mv (.t 5), none⟩,
                 ⟨(some 32), .len (.t 31), none⟩,
                 ⟨(some 33), .mv (.c (.int .i64 0)), none⟩])
               (.block 2
                (.loop
                 (.seq
                  (.reg none [⟨(some 34), .bin .lss (.t 33) (.t 32), none⟩])
                  (.seq
                   (.cond (.t 34)
                    .skip
                    (.exit 2))
                   (.seq
                    (.block 3
                     (.seq
                      (.reg none [⟨(some 35), .iaddr 1 (.t 31) (.t 33), none⟩,
                        ⟨(some 36), .load none (.t 35), none⟩,
                        ⟨(some 7), .mv (.t 36), none⟩])
                      (.seq
                       (.seq
                        (.reg none [⟨(some 37), .mv (.t 7), none⟩,
                          ⟨(some 38), .bin .lss (.t 37) (.c (.int .i64 0)), none⟩,
                          ⟨(some 39), .mv (.t 38), none⟩,
                          ⟨(some 40), .mv (.t 7), some (39, false)⟩,
                          ⟨(some 41), .bin .gtr (.t 40) (.c (.int .i64 16)), some (39, false)⟩,
                          ⟨(some 42), .pick (.t 39) (.c (.b true)) (.t 41), none⟩])
                        (.cond (.t 42)
                         (.seq
                          (.reg none [⟨(some 2), .mv (.c (.b false)), none⟩])
                          .ret)
                         .skip))
                       (.reg none [⟨(some 43), .mv (.t 3), none⟩,
                         ⟨(some 44), .mv (.t 7), none⟩,
                         ⟨(some 45), .bin .add (.t 43) (.t 44), none⟩,
                         ⟨(some 3), .mv (.t 45), none⟩]))))
                    (.reg none [⟨(some 46), .bin .add (.t 33) (.c (.int .i64 1)), none⟩,
                      ⟨(some 33), .mv (.t 46), none⟩]))))))))))
           (.reg none [⟨(some 47), .bin .add (.t 10) (.c (.int .i64 1)), none⟩,
             ⟨(some 10), .mv (.t 47), none⟩])))))))
     (.seq
      (.reg none [⟨(some 48), .mv (.t 0), none⟩,
        ⟨(some 49), .len (.t 48), none⟩,
        ⟨(some 50), .bin .geq (.t 49) (.c (.int .i64 1)), none⟩,
        ⟨(some 51), .mv (.t 50), none⟩,
        ⟨(some 52), .mv (.t 0), some (51, true)⟩,
        ⟨(some 53), .len (.t 52), some (51, true)⟩,
        ⟨(some 54), .bin .leq (.t 53) (.c (.int .i64 3)), some (51, true)⟩,
        ⟨(some 55), .pick (.t 51) (.t 54) (.c (.b false)), none⟩,
        ⟨(some 56), .mv (.t 55), none⟩,
        ⟨(some 57), .mv (.t 3), some (56, true)⟩,
        ⟨(some 58), .bin .leq (.t 57) (.c (.int .i64 16)), some (56, true)⟩,
        ⟨(some 59), .pick (.t 56) (.t 58) (.c (.b false)), none⟩,
        ⟨(some 2), .mv (.t 59), none⟩])
      .ret)))) }
theorem f7P : prepF C Try.f7 = some f7A := by kernel_rfl

/-- congou/congoutop.adds -/
def f8A : AFunc :=
{ nargs := 0, res := [.t 0], body :=
  (.seq
   (.reg none [⟨(some 0), .mv (.c (.b false)), none⟩])
   (.seq
    (.reg none [⟨(some 5), .bslice [(.int .i64 0)] 2 1 [(0, (.c (.int .i64 1))), (1, (.c (.int .i64 2)))], none⟩,
      ⟨(some 6), .bslice [(.int .i64 0)] 2 1 [(0, (.c (.int .i64 3))), (1, (.c (.int .i64 4)))], none⟩,
      ⟨(some 7), .bslice [.nils] 2 1 [(0, (.t 5)), (1, (.t 6))], none⟩,
      ⟨(some 8), .call 5 [(.t 7)], none⟩,
      ⟨(some 4), .mv (.t 8), none⟩,
      ⟨(some 9), .extr (.t 4) 0, none⟩,
      ⟨(some 10), .extr (.t 4) 1, none⟩,
      ⟨(some 11), .extr (.t 4) 2, none⟩,
      ⟨(some 1), .mv (.t 9), none⟩,
      ⟨(some 2), .mv (.t 10), none⟩,
      ⟨(some 3), .mv (.t 11), none⟩])
    (.seq
     (.reg none [⟨(some 12), .mv (.t 3), none⟩,
       ⟨(some 13), .bin .eql (.t 12) (.c (.int .i64 0)), none⟩,
       ⟨(some 14), .mv (.t 13), none⟩,
       ⟨(some 15), .mv (.t 1), some (14, true)⟩,
       ⟨(some 16), .bslice [(.int .i64 0)] 2 1 [(0, (.c (.int .i64 3))), (1, (.c (.int .i64 7)))], some (14, true)⟩,
       ⟨(some 17), .call 23 [(.t 15), (.t 16)], some (14, true)⟩,
       ⟨(some 18), .pick (.t 14) (.t 17) (.c (.b false)), none⟩,
       ⟨(some 19), .mv (.t 18), none⟩,
       ⟨(some 20), .mv (.t 2), some (19, true)⟩,
       ⟨(some 21), .bslice [(.int .i64 0)] 2 1 [(0, (.c (.int .i64 4))), (1, (.c (.int .i64 6)))], some (19, true)⟩,
       ⟨(some 22), .call 23 [(.t 20), (.t 21)], some (19, true)⟩,
       ⟨(some 23), .pick (.t 19) (.t 22) (.c (.b false)), none⟩,
       ⟨(some 0), .mv (.t 23), none⟩])
     .ret))) }
theorem f8P : prepF C Try.f8 = some f8A := by kernel_rfl

/-- congou/congouref06.Frac -/
def f9A : AFunc :=
{ nargs := 2, res := [.c 4 (some 2)], body :=
  (.seq
   (.reg none [⟨(some 4), .alloc [(.int .i64 0), (.int .i64 0)], none⟩])
   (.seq
    (.reg none [⟨(some 7), .mv (.t 0), none⟩,
      ⟨(some 8), .mv (.t 0), none⟩,
      ⟨(some 9), .un .neg (.t 8), none⟩,
      ⟨(some 10), .mx [(.t 7), (.t 9)], none⟩,
      ⟨(some 11), .mv (.t 1), none⟩,
      ⟨(some 5), .mv (.t 10), none⟩,
      ⟨(some 6), .mv (.t 11), none⟩])
    (.seq
     (.block 0
      (.loop
       (.seq
        (.seq
         (.reg none [⟨(some 12), .mv (.t 6), none⟩,
           ⟨(some 13), .bin .neq (.t 12) (.c (.int .i64 0)), none⟩])
         (.cond (.t 13)
          .skip
          (.exit 0)))
        (.block 1
         (.reg (some []) [⟨(some 14), .mv (.t 6), none⟩,
           ⟨(some 15), .mv (.t 5), none⟩,
           ⟨(some 16), .mv (.t 6), none⟩,
           ⟨(some 17), .bin .rem (.t 15) (.t 16), none⟩,
           ⟨(some 5), .mv (.t 14), none⟩,
           ⟨(some 6), .mv (.t 17), none⟩])))))
     (.seq
      (.reg (some []) [⟨(some 18), .mv (.t 0), none⟩,
        ⟨(some 19), .mv (.t 5), none⟩,
        ⟨(some 20), .bin .quo (.t 18) (.t 19), none⟩,
        ⟨(some 21), .mv (.t 1), none⟩,
        ⟨(some 22), .mv (.t 5), none⟩,
        ⟨(some 23), .bin .quo (.t 21) (.t 22), none⟩,
        ⟨(some 24), .build [(.int .i64 0), (.int .i64 0)] [(0, 1, (.t 20)), (1, 1, (.t 23))], none⟩,
        ⟨none, .store 2 (.t 4) (.t 24), none⟩])
      .ret)))) }
theorem f9P : prepF C Try.f9 = some f9A := by kernel_rfl

/-- slices.Clone[[]congou/api.Frac,congou/api.Frac] -/
def f10A : AFunc :=
{ nargs := 1, res := [.t 2], body :=
  (.seq
   (.reg none [⟨(some 2), .mv (.c .nils), none⟩])
   (.seq
    (.seq
     (.reg none [⟨(some 3), .mv (.t 0), none⟩,
       ⟨(some 4), .seq false (.t 3) (.c .nils), none⟩])
     (.cond (.t 4)
      (.seq
       (.reg none [⟨(some 2), .mv (.c .nils), none⟩])
       .ret)
      .skip))
    (.seq
     (.reg none [⟨(some 5), .bslice [(.int .i64 0), (.int .i64 0)] 0 2 [], none⟩,
       ⟨(some 6), .mv (.t 0), none⟩,
       ⟨(some 7), .append 2 16 (.t 5) (.t 6), none⟩,
       ⟨(some 2), .mv (.t 7), none⟩])
     .ret))) }
theorem f10P : prepF C Try.f10 = some f10A := by kernel_rfl

/-- congou/shares.Split -/
def f11A : AFunc :=
{ nargs := 1, res := [.t 2, .t 3, .t 4], body :=
  (.seq
   (.reg none [⟨(some 2), .mv (.c .nils), none⟩,
     ⟨(some 3), .mv (.c .nils), none⟩,
     ⟨(some 4), .mv (.c (.int .i64 0)), none⟩])
   (.seq
    (.reg none [⟨(some 18), .mv (.t 0), none⟩,
      ⟨(some 19), .call 24 [(.t 18)], none⟩,
      ⟨(some 17), .mv (.t 19), none⟩,
      ⟨(some 20), .extr (.t 17) 0, none⟩,
      ⟨(some 21), .extr (.t 17) 1, none⟩,
      ⟨(some 22), .extr (.t 17) 2, none⟩,
      ⟨(some 5), .mv (.t 20), none⟩,
      ⟨(some 6), .mv (.t 21), none⟩,
      ⟨(some 7), .mv (.t 22), none⟩])
    (.seq
     (.seq
      (.reg none [⟨(some 23), .mv (.t 7), none⟩,
        ⟨(some 24), .un .not (.t 23), none⟩])
      (.cond (.t 24)
       (.seq
        (.reg none [⟨(some 2), .mv (.c .nils), none⟩,
          ⟨(some 3), .mv (.c .nils), none⟩,
          ⟨(some 4), .mv (.c (.int .i64 2)), none⟩])
        .ret)
       .skip))
     (.seq
      (.reg none [⟨(some 8), .mv (.c .nils), none⟩])
      (.seq
       (.reg none [⟨(some 9), .mv (.c .nils), none⟩])
       (.seq
        (.seq
         (.reg none [⟨(some 25), .mv (.t 6), none⟩,
           ⟨(some 10), .mv (.t 25), none⟩])
         (.block 0
          (.loop
           (.seq
            (.seq
             (.reg none [⟨(some 26), .mv (.t 10), none⟩,
               ⟨(some 27), .bin .gtr (.t 26) (.c (.int .i64 0)), none⟩])
             (.cond (.t 27)
              .skip
              (.exit 0)))
            (.block 1
             (.seq
              (.reg none [⟨(some 28), .mv (.t 5), none⟩,
                ⟨(some 29), .call 25 [(.t 28)], none⟩,
                ⟨(some 11), .mv (.t 29), none⟩])
              (.seq
               (.reg none [⟨(some 30), .mv (.t 10), none⟩,
                 ⟨(some 12), .mv (.t 30), none⟩])
               (.seq
                (.seq
                 (.reg none [⟨(some 31), .mv (.t 11), none⟩,
                   ⟨(some 32), .len (.t 31), none⟩,
                   ⟨(some 33), .mv (.c (.int .i64 0)), none⟩])
                 (.block 2
                  (.loop
                   (.seq
                    (.reg none [⟨(some 34), .bin .lss (.t 33) (.t 32), none⟩])
                    (.seq
                     (.cond (.t 34)
                      .skip
                      (.exit 2))
                     (.seq
                      (.block 3
                       (.seq
                        (.reg none [⟨(some 35), .mv (.t 33), none⟩,
                          ⟨(some 36), .iaddr 1 (.t 31) (.t 33), none⟩,
                          ⟨(some 37), .load none (.t 36), none⟩,
                          ⟨(some 13), .mv (.t 35), none⟩,
                          ⟨(some 14), .mv (.t 37), none⟩])
                        (.reg none [⟨(some 38), .mv (.t 12), none⟩,
                          ⟨(some 39), .mv (.t 5), none⟩,
                          ⟨(some 40), .mv (.t 13), none⟩,
                          ⟨(some 41), .iaddr 1 (.t 39) (.t 40), none⟩,
                          ⟨(some 42), .load none (.t 41), none⟩,
                          ⟨(some 43), .mv (.t 14), none⟩,
                          ⟨(some 44), .iaddr 1 (.t 42) (.t 43), none⟩,
                          ⟨(some 45), .load none (.t 44), none⟩,
                          ⟨(some 46), .mn [(.t 38), (.t 45)], none⟩,
                          ⟨(some 12), .mv (.t 46), none⟩])))
                      (.reg none [⟨(some 47), .bin .add (.t 33) (.c (.int .i64 1)), none⟩,
                        ⟨(some 33), .mv (.t 47), none⟩])))))))
                (.seq
                 (.seq
                  (.reg none [⟨(some 48), .mv (.t 11), none⟩,
                    ⟨(some 49), .len (.t 48), none⟩,
                    ⟨(some 50), .mv (.c (.int .i64 0)), none⟩])
                  (.block 4
                   (.loop
                    (.seq
                     (.reg none [⟨(some 51), .bin .lss (.t 50) (.t 49), none⟩])
                     (.seq
                      (.cond (.t 51)
                       .skip
                       (.exit 4))
                      (.seq
                       (.block 5
                        (.seq
                         (.reg none [⟨(some 52), .mv (.t 50), none⟩,
                           ⟨(some 53), .iaddr 1 (.t 48) (.t 50), none⟩,
                           ⟨(some 54), .load none (.t 53), none⟩,
                           ⟨(some 15), .mv (.t 52), none⟩,
                           ⟨(some 16), .mv (.t 54), none⟩])
                         (.reg none [⟨(some 55), .mv (.t 5), none⟩,
                           ⟨(some 56), .mv (.t 15), none⟩,
                           ⟨(some 57), .iaddr 1 (.t 55) (.t 56), none⟩,
                           ⟨(some 58), .load none (.t 57), none⟩,
                           ⟨(some 59), .mv (.t 16), none⟩,
                           ⟨(some 60), .iaddr 1 (.t 58) (.t 59), none⟩,
                           ⟨(some 61), .load none (.t 60), none⟩,
                           ⟨(some 62), .mv (.t 12), none⟩,
                           ⟨(some 63), .bin .sub (.t 61) (.t 62), none⟩,
                           ⟨(some 64), .iaddr 1 (.t 58) (.t 59), none⟩,
                           ⟨none, .store 1 (.t 64) (.t 63), none⟩])))
                       (.reg none [⟨(some 65), .bin .add (.t 50) (.c (.int .i64 1)), none⟩,
                         ⟨(some 50), .mv (.t 65), none⟩])))))))
                 (.seq
                  (.reg none [⟨(some 66), .mv (.t 8), none⟩,
                    ⟨(some 67), .mv (.t 11), none⟩,
                    ⟨(some 68), .bslice [.nils] 1 1 [(0, (.t 67))], none⟩,
                    ⟨(some 69), .append 1 24 (.t 66) (.t 68), none⟩,
                    ⟨(some 70), .mv (.t 9), none⟩,
                    ⟨(some 71), .mv (.t 12), none⟩,
                    ⟨(some 72), .mv (.t 6), none⟩,
                    ⟨(some 73), .call 26 [(.t 71), (.t 72)], none⟩,
                    ⟨(some 74), .bslice [(.int .i64 0), (.int .i64 0)] 1 2 [(0, (.t 73))], none⟩,
                    ⟨(some 75), .append 2 16 (.t 70) (.t 74), none⟩,
                    ⟨(some 8), .mv (.t 69), none⟩,
                    ⟨(some 9), .mv (.t 75), none⟩])
                  (.reg none [⟨(some 76), .mv (.t 10), none⟩,
                    ⟨(some 77), .mv (.t 12), none⟩,
                    ⟨(some 78), .bin .sub (.t 76) (.t 77), none⟩,
                    ⟨(some 10), .mv (.t 78), none⟩])))))))))))
        (.seq
         (.reg none [⟨(some 79), .mv (.t 8), none⟩,
           ⟨(some 80), .mv (.t 9), none⟩,
           ⟨(some 2), .mv (.t 79), none⟩,
           ⟨(some 3), .mv (.t 80), none⟩,
           ⟨(some 4), .mv (.c (.int .i64 0)), none⟩])
         .ret))))))) }
theorem f11P : prepF C Try.f11 = some f11A := by kernel_rfl

/-- congou/shares.CheckSplit -/
def f12A : AFunc :=
{ nargs := 3, res := [.t 6, .t 7], body :=
  (.seq
   (.reg none [⟨(some 6), .mv (.c (.b false)), none⟩,
     ⟨(some 7), .mv (.c (.int .i64 0)), none⟩])
   (.seq
    (.reg none [⟨(some 24), .mv (.t 0), none⟩,
      ⟨(some 25), .call 24 [(.t 24)], none⟩,
      ⟨(some 23), .mv (.t 25), none⟩,
      ⟨(some 26), .extr (.t 23) 0, none⟩,
      ⟨(some 27), .extr (.t 23) 1, none⟩,
      ⟨(some 28), .extr (.t 23) 2, none⟩,
      ⟨(some 8), .mv (.t 26), none⟩,
      ⟨(some 9), .mv (.t 27), none⟩,
      ⟨(some 10), .mv (.t 28), none⟩])
    (.seq
     (.seq
      (.reg none [⟨(some 29), .mv (.t 10), none⟩,
        ⟨(some 30), .un .not (.t 29), none⟩])
      (.cond (.t 30)
       (.seq
        (.reg none [⟨(some 6), .mv (.c (.b false)), none⟩,
          ⟨(some 7), .mv (.c (.int .i64 2)), none⟩])
        .ret)
       .skip))
     (.seq
      (.seq
       (.reg none [⟨(some 31), .mv (.t 1), none⟩,
         ⟨(some 32), .len (.t 31), none⟩,
         ⟨(some 33), .mv (.t 2), none⟩,
         ⟨(some 34), .len (.t 33), none⟩,
         ⟨(some 35), .bin .neq (.t 32) (.t 34), none⟩,
         ⟨(some 36), .mv (.t 35), none⟩,
         ⟨(some 37), .mv (.t 1), some (36, false)⟩,
         ⟨(some 38), .len (.t 37), some (36, false)⟩,
         ⟨(some 39), .bin .gtr (.t 38) (.c (.int .i64 100)), some (36, false)⟩,
         ⟨(some 40), .pick (.t 36) (.c (.b true)) (.t 39), none⟩])
       (.cond (.t 40)
        (.seq
         (.reg none [⟨(some 6), .mv (.c (.b false)), none⟩,
           ⟨(some 7), .mv (.c (.int .i64 0)), none⟩])
         .ret)
        .skip))
      (.seq
       (.reg none [⟨(some 42), .mv (.t 2), none⟩,
         ⟨(some 43), .bslice [.nils] 1 1 [(0, (.t 42))], none⟩,
         ⟨(some 44), .call 27 [(.t 43), (.c (.int .i64 10000000))], none⟩,
         ⟨(some 41), .mv (.t 44), none⟩,
         ⟨(some 45), .extr (.t 41) 0, none⟩,
         ⟨(some 46), .extr (.t 41) 1, none⟩,
         ⟨(some 11), .mv (.t 45), none⟩,
         ⟨(some 10), .mv (.t 46), none⟩])
       (.seq
        (.seq
         (.reg none [⟨(some 47), .mv (.t 10), none⟩,
           ⟨(some 48), .un .not (.t 47), none⟩])
         (.cond (.t 48)
          (.seq
           (.reg none [⟨(some 6), .mv (.c (.b false)), none⟩,
             ⟨(some 7), .mv (.c (.int .i64 0)), none⟩])
           .ret)
          .skip))
        (.seq
         (.reg none [⟨(some 12), .mv (.c (.int .i64 0)), none⟩])
         (.seq
          (.reg none [⟨(some 49), .mv (.t 0), none⟩,
            ⟨(some 50), .len (.t 49), none⟩,
            ⟨(some 51), .mkslice 5 40 [(.int .i64 0), (.int .i64 0), (.int .i64 0), (.int .i64 0), (.int .i64 0)] (.t 50), none⟩,
            ⟨(some 13), .mv (.t 51), none⟩])
          (.seq
           (.seq
            (.reg none [⟨(some 52), .mv (.t 1), none⟩,
              ⟨(some 53), .len (.t 52), none⟩,
              ⟨(some 54), .mv (.c (.int .i64 0)), none⟩])
            (.block 0
             (.loop
              (.seq
               (.reg none [⟨(some 55), .bin .lss (.t 54) (.t 53), none⟩])
               (.seq
                (.cond (.t 55)
                 .skip
                 (.exit 0))
                (.seq
                 (.block 1
                  (.seq
                   (.reg none [⟨(some 56), .mv (.t 54), none⟩,
                     ⟨(some 57), .iaddr 1 (.t 52) (.t 54), none⟩,
                     ⟨(some 58), .load none (.t 57), none⟩,
                     ⟨(some 14), .mv (.t 56), none⟩,
                     ⟨(some 15), .mv (.t 58), none⟩])
                   (.seq
                    (.seq
                     (.reg none [⟨(some 59), .mv (.t 15), none⟩,
                       ⟨(some 60), .mv (.t 0), none⟩,
                       ⟨(some 61), .len (.t 60), none⟩,
                       ⟨(some 62), .call 28 [(.t 59), (.t 61)], none⟩,
                       ⟨(some 63), .un .not (.t 62), none⟩,
                       ⟨(some 64), .mv (.t 63), none⟩,
                       ⟨(some 65), .mv (.t 2), some (64, false)⟩,
                       ⟨(some 66), .mv (.t 14), some (64, false)⟩,
                       ⟨(some 67), .iaddr 2 (.t 65) (.t 66), some (64, false)⟩,
                       ⟨(some 68), .faddr 0 (.t 67), some (64, false)⟩,
                       ⟨(some 69), .load none (.t 68), some (64, false)⟩,
                       ⟨(some 70), .bin .eql (.t 69) (.c (.int .i64 0)), some (64, false)⟩,
                       ⟨(some 71), .pick (.t 64) (.c (.b true)) (.t 70), none⟩])
                     (.cond (.t 71)
                      (.seq
                       (.reg none [⟨(some 6), .mv (.c (.b false)), none⟩,
                         ⟨(some 7), .mv (.c (.int .i64 0)), none⟩])
                       .ret)
                      .skip))
                    (.seq
                     (.reg (some []) [⟨(some 72), .mv (.t 2), none⟩,
                       ⟨(some 73), .mv (.t 14), none⟩,
                       ⟨(some 74), .iaddr 2 (.t 72) (.t 73), none⟩,
                       ⟨(some 75), .faddr 0 (.t 74), none⟩,
                       ⟨(some 76), .load none (.t 75), none⟩,
                       ⟨(some 77), .mv (.t 11), none⟩,
                       ⟨(some 78), .mv (.t 2), none⟩,
                       ⟨(some 79), .mv (.t 14), none⟩,
                       ⟨(some 80), .iaddr 2 (.t 78) (.t 79), none⟩,
                       ⟨(some 81), .faddr 1 (.t 80), none⟩,
                       ⟨(some 82), .load none (.t 81), none⟩,
                       ⟨(some 83), .bin .quo (.t 77) (.t 82), none⟩,
                       ⟨(some 84), .bin .mul (.t 76) (.t 83), none⟩,
                       ⟨(some 16), .mv (.t 84), none⟩])
                     (.seq
                      (.reg none [⟨(some 85), .mv (.t 12), none⟩,
                        ⟨(some 86), .mv (.t 16), none⟩,
                        ⟨(some 87), .bin .add (.t 85) (.t 86), none⟩,
                        ⟨(some 12), .mv (.t 87), none⟩])
                      (.seq
                       (.reg none [⟨(some 88), .mv (.t 15), none⟩,
                         ⟨(some 89), .len (.t 88), none⟩,
                         ⟨(some 90), .mv (.c (.int .i64 0)), none⟩])
                       (.block 2
                        (.loop
                         (.seq
                          (.reg none [⟨(some 91), .bin .lss (.t 90) (.t 89), none⟩])
                          (.seq
                           (.cond (.t 91)
                            .skip
                            (.exit 2))
                           (.seq
                            (.block 3
                             (.seq
                              (.reg none [⟨(some 92), .mv (.t 90), none⟩,
                                ⟨(some 93), .iaddr 1 (.t 88) (.t 90), none⟩,
                                ⟨(some 94), .load none (.t 93), none⟩,
                                ⟨(some 17), .mv (.t 92), none⟩,
                                ⟨(some 18), .mv (.t 94), none⟩])
                              (.reg (some []) [⟨(some 95), .mv (.t 13), none⟩,
                                ⟨(some 96), .mv (.t 17), none⟩,
                                ⟨(some 97), .mv (.t 18), none⟩,
                                ⟨(some 98), .iaddr 5 (.t 95) (.t 96), none⟩,
                                ⟨(some 99), .iaddrA 5 1 (.t 98) (.t 97), none⟩,
                                ⟨(some 100), .load none (.t 99), none⟩,
                                ⟨(some 101), .mv (.t 16), none⟩,
                                ⟨(some 102), .bin .add (.t 100) (.t 101), none⟩,
                                ⟨(some 103), .iaddr 5 (.t 95) (.t 96), none⟩,
                                ⟨(some 104), .iaddrA 5 1 (.t 103) (.t 97), none⟩,
                                ⟨none, .store 1 (.t 104) (.t 102), none⟩])))
                            (.reg none [⟨(some 105), .bin .add (.t 90) (.c (.int .i64 1)), none⟩,
                              ⟨(some 90), .mv (.t 105), none⟩]))))))))))))
                 (.reg none [⟨(some 106), .bin .add (.t 54) (.c (.int .i64 1)), none⟩,
                   ⟨(some 54), .mv (.t 106), none⟩])))))))
           (.seq
            (.seq
             (.reg none [⟨(some 107), .mv (.t 8), none⟩,
               ⟨(some 108), .len (.t 107), none⟩,
               ⟨(some 109), .mv (.c (.int .i64 0)), none⟩])
             (.block 4
              (.loop
               (.seq
                (.reg none [⟨(some 110), .bin .lss (.t 109) (.t 108), none⟩])
                (.seq
                 (.cond (.t 110)
                  .skip
                  (.exit 4))
                 (.seq
                  (.block 5
                   (.seq
                    (.reg none [⟨(some 111), .mv (.t 109), none⟩,
                      ⟨(some 112), .iaddr 1 (.t 107) (.t 109), none⟩,
                      ⟨(some 113), .load none (.t 112), none⟩,
                      ⟨(some 19), .mv (.t 111), none⟩,
                      ⟨(some 20), .mv (.t 113), none⟩])
                    (.seq
                     (.reg none [⟨(some 114), .mv (.t 20), none⟩,
                       ⟨(some 115), .len (.t 114), none⟩,
                       ⟨(some 116), .mv (.c (.int .i64 0)), none⟩])
                     (.block 6
                      (.loop
                       (.seq
                        (.reg none [⟨(some 117), .bin .lss (.t 116) (.t 115), none⟩])
                        (.seq
                         (.cond (.t 117)
                          .skip
                          (.exit 6))
                         (.seq
                          (.block 7
                           (.seq
                            (.reg none [⟨(some 118), .mv (.t 116), none⟩,
                              ⟨(some 119), .iaddr 1 (.t 114) (.t 116), none⟩,
                              ⟨(some 120), .load none (.t 119), none⟩,
                              ⟨(some 21), .mv (.t 118), none⟩,
                              ⟨(some 22), .mv (.t 120), none⟩])
                            (.seq
                             (.reg none [⟨(some 121), .mv (.t 13), none⟩,
                               ⟨(some 122), .mv (.t 19), none⟩,
                               ⟨(some 123), .mv (.t 21), none⟩,
                               ⟨(some 124), .iaddr 5 (.t 121) (.t 122), none⟩,
                               ⟨(some 125), .iaddrA 5 1 (.t 124) (.t 123), none⟩,
                               ⟨(some 126), .load none (.t 125), none⟩,
                               ⟨(some 127), .mv (.t 9), none⟩,
                               ⟨(some 128), .bin .mul (.t 126) (.t 127), none⟩,
                               ⟨(some 129), .mv (.t 22), none⟩,
                               ⟨(some 130), .mv (.t 11), none⟩,
                               ⟨(some 131), .bin .mul (.t 129) (.t 130), none⟩,
                               ⟨(some 132), .bin .neq (.t 128) (.t 131), none⟩])
                             (.cond (.t 132)
                              (.seq
                               (.reg none [⟨(some 6), .mv (.c (.b false)), none⟩,
                                 ⟨(some 7), .mv (.c (.int .i64 0)), none⟩])
                               .ret)
                              .skip))))
                          (.reg none [⟨(some 133), .bin .add (.t 116) (.c (.int .i64 1)), none⟩,
                            ⟨(some 116), .mv (.t 133), none⟩])))))))))
                  (.reg none [⟨(some 134), .bin .add (.t 109) (.c (.int .i64 1)), none⟩,
                    ⟨(some 109), .mv (.t 134), none⟩])))))))
            (.seq
             (.reg none [⟨(some 135), .mv (.t 12), none⟩,
               ⟨(some 136), .mv (.t 11), none⟩,
               ⟨(some 137), .bin .eql (.t 135) (.t 136), none⟩,
               ⟨(some 6), .mv (.t 137), none⟩,
               ⟨(some 7), .mv (.c (.int .i64 0)), none⟩])
             .ret))))))))))) }
theorem f12P : prepF C Try.f12 = some f12A := by kernel_rfl

/-- slices.Clone[[]int,int] -/
def f18A : AFunc :=
{ nargs := 1, res := [.t 2], body :=
  (.seq
   (.reg none [⟨(some 2), .mv (.c .nils), none⟩])
   (.seq
    (.seq
     (.reg none [⟨(some 3), .mv (.t 0), none⟩,
       ⟨(some 4), .seq false (.t 3) (.c .nils), none⟩])
     (.cond (.t 4)
      (.seq
       (.reg none [⟨(some 2), .mv (.c .nils), none⟩])
       .ret)
      .skip))
    (.seq
     (.reg none [⟨(some 5), .bslice [(.int .i64 0)] 0 1 [], none⟩,
       ⟨(some 6), .mv (.t 0), none⟩,
       ⟨(some 7), .append 1 8 (.t 5) (.t 6), none⟩,
       ⟨(some 2), .mv (.t 7), none⟩])
     .ret))) }
theorem f18P : prepF C Try.f18 = some f18A := by kernel_rfl

/-- (congou/counts.table).valid -/
def f21A : AFunc :=
{ nargs := 1, res := [.t 2], body :=
  (.seq
   (.reg none [⟨(some 2), .mv (.c (.b false)), none⟩])
   (.seq
    (.seq
     (.reg none [⟨(some 8), .mv (.t 0), none⟩,
       ⟨(some 9), .len (.t 8), none⟩,
       ⟨(some 10), .bin .lss (.t 9) (.c (.int .i64 1)), none⟩,
       ⟨(some 11), .mv (.t 10), none⟩,
       ⟨(some 12), .mv (.t 0), some (11, false)⟩,
       ⟨(some 13), .len (.t 12), some (11, false)⟩,
       ⟨(some 14), .bin .gtr (.t 13) (.c (.int .i64 3)), some (11, false)⟩,
       ⟨(some 15), .pick (.t 11) (.c (.b true)) (.t 14), none⟩])
     (.cond (.t 15)
      (.seq
       (.reg none [⟨(some 2), .mv (.c (.b false)), none⟩])
       .ret)
      .skip))
    (.seq
     (.reg none [⟨(some 3), .mv (.c (.int .i64 0)), none⟩])
     (.seq
      (.seq
       (.reg none [⟨(some 16), .mv (.t 0), none⟩,
         ⟨(some 17), .len (.t 16), none⟩,
         ⟨(some 18), .mv (.c (.int .i64 0)), none⟩])
       (.block 0
        (.loop
         (.seq
          (.reg none [⟨(some 19), .bin .lss (.t 18) (.t 17), none⟩])
          (.seq
           (.cond (.t 19)
            .skip
            (.exit 0))
           (.seq
            (.block 1
             (.seq
              (.reg none [⟨(some 20), .iaddr 1 (.t 16) (.t 18), none⟩,
                ⟨(some 21), .load none (.t 20), none⟩,
                ⟨(some 5), .mv (.t 21), none⟩])
              (.seq
               (.seq
                (.reg none [⟨(some 22), .mv (.t 5), none⟩,
                  ⟨(some 23), .len (.t 22), none⟩,
                  ⟨(some 24), .bin .lss (.t 23) (.c (.int .i64 1)), none⟩,
                  ⟨(some 25), .mv (.t 24), none⟩,
                  ⟨(some 26), .mv (.t 5), some (25, false)⟩,
                  ⟨(some 27), .len (.t 26), some (25, false)⟩,
                  ⟨(some 28), .bin .gtr (.t 27) (.c (.int .i64 3)), some (25, false)⟩,
                  ⟨(some 29), .pick (.t 25) (.c (.b true)) (.t 28), none⟩,
                  ⟨(some 30), .mv (.t 29), none⟩,
                  ⟨(some 31), .mv (.t 5), some (30, false)⟩,
                  ⟨(some 32), .len (.t 31), some (30, false)⟩,
                  ⟨(some 33), .mv (.t 0), some (30, false)⟩,
                  ⟨(some 34), .iaddr 1 (.t 33) (.c (.int .i64 0)), some (30, false)⟩,
                  ⟨(some 35), .load none (.t 34), some (30, false)⟩,
                  ⟨(some 36), .len (.t 35), some (30, false)⟩,
                  ⟨(some 37), .bin .neq (.t 32) (.t 36), some (30, false)⟩,
                  ⟨(some 38), .pick (.t 30) (.c (.b true)) (.t 37), none⟩,
                  ⟨(some 39), .mv (.t 38), none⟩,
                  ⟨(some 40), .mv (.t 5), some (39, false)⟩,
                  ⟨(some 41), .call 39 [(.t 40)], some (39, false)⟩,
                  ⟨(some 42), .un .not (.t 41), some (39, false)⟩,
                  ⟨(some 43), .pick (.t 39) (.c (.b true)) (.t 42), none⟩])
                (.cond (.t 43)
                 (.seq
                  (.reg none [⟨(some 2), .mv (.c (.b false)), none⟩])
                  .ret)
                 .skip))
               (.seq
                (.reg none [⟨(some 44), .mv (.t 5), none⟩,
                  ⟨(some 45), .len (.t 44), none⟩,
                  ⟨(some 46), .mv (.c (.int .i64 0)), none⟩])
                (.block 2
                 (.loop
                  (.seq
                   (.reg none [⟨(some 47), .bin .lss (.t 46) (.t 45), none⟩])
                   (.seq
                    (.cond (.t 47)
                     .skip
                     (.exit 2))
                    (.seq
                     (.block 3
                      (.seq
                       (.reg none [⟨(some 48), .iaddr 1 (.t 44) (.t 46), none⟩,
                         ⟨(some 49), .load none (.t 48), none⟩,
                         ⟨(some 7), .mv (.t 49), none⟩])
                       (.reg none [⟨(some 50), .mv (.t 3), none⟩,
                         ⟨(some 51), .mv (.t 7), none⟩,
                         ⟨(some 52), .bin .add (.t 50) (.t 51), none⟩,
                         ⟨(some 3), .mv (.t 52), none⟩])))
                     (.reg none [⟨(some 53), .bin .add (.t 46) (.c (.int .i64 1)), none⟩,
                       ⟨(some 46), .mv (.t 53), none⟩]))))))))))
            (.reg none [⟨(some 54), .bin .add (.t 18) (.c (.int .i64 1)), none⟩,
              ⟨(some 18), .mv (.t 54), none⟩])))))))
      (.seq
       (.reg none [⟨(some 55), .mv (.t 3), none⟩,
         ⟨(some 56), .bin .leq (.t 55) (.c (.int .i64 16)), none⟩,
         ⟨(some 2), .mv (.t 56), none⟩])
       .ret))))) }
theorem f21P : prepF C Try.f21 = some f21A := by kernel_rfl

/-- (congou/counts.table).sums -/
def f22A : AFunc :=
{ nargs := 1, res := [.t 2, .t 3], body :=
  (.seq
   (.reg none [⟨(some 2), .mv (.c .nils), none⟩,
     ⟨(some 3), .mv (.c .nils), none⟩])
   (.seq
    (.reg none [⟨(some 9), .mv (.t 0), none⟩,
      ⟨(some 10), .iaddr 1 (.t 9) (.c (.int .i64 0)), none⟩,
      ⟨(some 11), .load none (.t 10), none⟩,
      ⟨(some 12), .len (.t 11), none⟩,
      ⟨(some 13), .mkslice 1 8 [(.int .i64 0)] (.t 12), none⟩,
      ⟨(some 3), .mv (.t 13), none⟩])
    (.seq
     (.seq
      (.reg none [⟨(some 14), .mv (.t 0), none⟩,
        ⟨(some 15), .len (.t 14), none⟩,
        ⟨(some 16), .mv (.c (.int .i64 0)), none⟩])
      (.block 0
       (.loop
        (.seq
         (.reg none [⟨(some 17), .bin .lss (.t 16) (.t 15), none⟩])
         (.seq
          (.cond (.t 17)
           .skip
           (.exit 0))
          (.seq
           (.block 1
            (.seq
             (.reg none [⟨(some 18), .iaddr 1 (.t 14) (.t 16), none⟩,
               ⟨(some 19), .load none (.t 18), none⟩,
               ⟨(some 5), .mv (.t 19), none⟩])
             (.seq
              (.reg none [⟨(some 6), .mv (.c (.int .i64 0)), none⟩])
              (.seq
               (.seq
                (.reg none [⟨(some 20), .mv (.t 5), none⟩,
                  ⟨(some 21), .len (.t 20), none⟩,
                  ⟨(some 22), .mv (.c (.int .i64 0)), none⟩])
                (.block 2
                 (.loop
                  (.seq
                   (.reg none [⟨(some 23), .bin .lss (.t 22) (.t 21), none⟩])
                   (.seq
                    (.cond (.t 23)
                     .skip
                     (.exit 2))
                    (.seq
                     (.block 3
                      (.seq
                       (.reg none [⟨(some 24), .mv (.t 22), none⟩,
                         ⟨(some 25), .iaddr 1 (.t 20) (.t 22), none⟩,
                         ⟨(some 26), .load none (.t 25), none⟩,
                         ⟨(some 7), .mv (.t 24), none⟩,
                         ⟨(some 8), .mv (.t 26), none⟩])
                       (.seq
                        (.reg none [⟨(some 27), .mv (.t 6), none⟩,
                          ⟨(some 28), .mv (.t 8), none⟩,
                          ⟨(some 29), .bin .add (.t 27) (.t 28), none⟩,
                          ⟨(some 6), .mv (.t 29), none⟩])
                        (.reg none [⟨(some 30), .mv (.t 3), none⟩,
                          ⟨(some 31), .mv (.t 7), none⟩,
                          ⟨(some 32), .iaddr 1 (.t 30) (.t 31), none⟩,
                          ⟨(some 33), .load none (.t 32), none⟩,
                          ⟨(some 34), .mv (.t 8), none⟩,
                          ⟨(some 35), .bin .add (.t 33) (.t 34), none⟩,
                          ⟨(some 36), .iaddr 1 (.t 30) (.t 31), none⟩,
                          ⟨none, .store 1 (.t 36) (.t 35), none⟩]))))
                     (.reg none [⟨(some 37), .bin .add (.t 22) (.c (.int .i64 1)), none⟩,
                       ⟨(some 22), .mv (.t 37), none⟩])))))))
               (.reg none [⟨(some 38), .mv (.t 2), none⟩,
                 ⟨(some 39), .mv (.t 6), none⟩,
                 ⟨(some 40), .bslice [(.int .i64 0)] 1 1 [(0, (.t 39))], none⟩,
                 ⟨(some 41), .append 1 8 (.t 38) (.t 40), none⟩,
                 ⟨(some 2), .mv (.t 41), none⟩])))))
           (.reg none [⟨(some 42), .bin .add (.t 16) (.c (.int .i64 1)), none⟩,
             ⟨(some 16), .mv (.t 42), none⟩])))))))
     (.seq
      (.reg none [⟨(some 43), .mv (.t 2), none⟩,
        ⟨(some 44), .mv (.t 3), none⟩,
        ⟨(some 2), .mv (.t 43), none⟩,
        ⟨(some 3), .mv (.t 44), none⟩])
      .ret)))) }
theorem f22P : prepF C Try.f22 = some f22A := by kernel_rfl

/-- slices.Equal[[]int,int] -/
def f23A : AFunc :=
{ nargs := 2, res := [.t 4], body :=
  (.seq
   (.reg none [⟨(some 4), .mv (.c (.b false)), none⟩])
   (.seq
    (.seq
     (.reg none [⟨(some 6), .mv (.t 0), none⟩,
       ⟨(some 7), .len (.t 6), none⟩,
       ⟨(some 8), .mv (.t 1), none⟩,
       ⟨(some 9), .len (.t 8), none⟩,
       ⟨(some 10), .bin .neq (.t 7) (.t 9), none⟩])
     (.cond (.t 10)
      (.seq
       (.reg none [⟨(some 4), .mv (.c (.b false)), none⟩])
       .ret)
      .skip))
    (.seq
     (.seq
      (.reg none [⟨(some 11), .mv (.t 0), none⟩,
        ⟨(some 12), .len (.t 11), none⟩,
        ⟨(some 13), .mv (.c (.int .i64 0)), none⟩])
      (.block 0
       (.loop
        (.seq
         (.reg none [⟨(some 14), .bin .lss (.t 13) (.t 12), none⟩])
         (.seq
          (.cond (.t 14)
           .skip
           (.exit 0))
          (.seq
           (.block 1
            (.seq
             (.reg none [⟨(some 15), .mv (.t 13), none⟩,
               ⟨(some 5), .mv (.t 15), none⟩])
             (.seq
              (.reg (some []) [⟨(some 16), .mv (.t 0), none⟩,
                ⟨(some 17), .mv (.t 5), none⟩,
                ⟨(some 18), .iaddr 1 (.t 16) (.t 17), none⟩,
                ⟨(some 19), .load none (.t 18), none⟩,
                ⟨(some 20), .mv (.t 1), none⟩,
                ⟨(some 21), .mv (.t 5), none⟩,
                ⟨(some 22), .iaddr 1 (.t 20) (.t 21), none⟩,
                ⟨(some 23), .load none (.t 22), none⟩,
                ⟨(some 24), .bin .neq (.t 19) (.t 23), none⟩])
              (.cond (.t 24)
               (.seq
                (.reg none [⟨(some 4), .mv (.c (.b false)), none⟩])
                .ret)
               .skip))))
           (.reg none [⟨(some 25), .bin .add (.t 13) (.c (.int .i64 1)), none⟩,
             ⟨(some 13), .mv (.t 25), none⟩])))))))
     (.seq
      (.reg none [⟨(some 4), .mv (.c (.b true)), none⟩])
      .ret)))) }
theorem f23P : prepF C Try.f23 = some f23A := by kernel_rfl

/-- congou/shares.read -/
def f24A : AFunc :=
{ nargs := 1, res := [.t 2, .t 3, .t 4], body :=
  (.seq
   (.reg none [⟨(some 2), .mv (.c .nils), none⟩,
     ⟨(some 3), .mv (.c (.int .i64 0)), none⟩,
     ⟨(some 4), .mv (.c (.b false)), none⟩])
   (.seq
    (.seq
     (.reg none [⟨(some 5), .mv (.t 0), none⟩,
       ⟨(some 6), .len (.t 5), none⟩,
       ⟨(some 7), .bin .lss (.t 6) (.c (.int .i64 1)), none⟩,
       ⟨(some 8), .mv (.t 7), none⟩,
       ⟨(some 9), .mv (.t 0), some (8, false)⟩,
       ⟨(some 10), .len (.t 9), some (8, false)⟩,
       ⟨(some 11), .bin .gtr (.t 10) (.c (.int .i64 5)), some (8, false)⟩,
       ⟨(some 12), .pick (.t 8) (.c (.b true)) (.t 11), none⟩])
     (.cond (.t 12)
      (.seq
       (.reg none [⟨(some 2), .mv (.c .nils), none⟩,
         ⟨(some 3), .mv (.c (.int .i64 0)), none⟩,
         ⟨(some 4), .mv (.c (.b false)), none⟩])
       .ret)
      .skip))
    (.seq
     (.seq
      (.reg none [⟨(some 14), .mv (.t 0), none⟩,
        ⟨(some 15), .mv (.t 0), none⟩,
        ⟨(some 16), .len (.t 15), none⟩,
        ⟨(some 17), .call 40 [(.t 14), (.t 16), (.c (.int .i64 10000))], none⟩,
        ⟨(some 13), .mv (.t 17), none⟩,
        ⟨(some 18), .extr (.t 13) 0, none⟩,
        ⟨(some 19), .extr (.t 13) 1, none⟩,
        ⟨(some 3), .mv (.t 18), none⟩,
        ⟨(some 4), .mv (.t 19), none⟩])
      (.seq
       (.reg none [⟨(some 20), .mv (.t 4), none⟩,
         ⟨(some 21), .un .not (.t 20), none⟩])
       (.cond (.t 21)
        (.seq
         (.reg none [⟨(some 2), .mv (.c .nils), none⟩,
           ⟨(some 3), .mv (.c (.int .i64 0)), none⟩,
           ⟨(some 4), .mv (.c (.b false)), none⟩])
         .ret)
        .skip)))
     (.seq
      (.reg none [⟨(some 23), .mv (.t 0), none⟩,
        ⟨(some 24), .mv (.t 3), none⟩,
        ⟨(some 25), .call 41 [(.t 23), (.t 24)], none⟩,
        ⟨(some 22), .mv (.t 25), none⟩,
        ⟨(some 26), .extr (.t 22) 0, none⟩,
        ⟨(some 27), .extr (.t 22) 1, none⟩,
        ⟨(some 2), .mv (.t 26), none⟩,
        ⟨(some 4), .mv (.t 27), none⟩])
      (.seq
       (.reg none [⟨(some 28), .mv (.t 2), none⟩,
         ⟨(some 29), .mv (.t 3), none⟩,
         ⟨(some 30), .mv (.t 4), none⟩,
         ⟨(some 2), .mv (.t 28), none⟩,
         ⟨(some 3), .mv (.t 29), none⟩,
         ⟨(some 4), .mv (.t 30), none⟩])
       .ret))))) }
theorem f24P : prepF C Try.f24 = some f24A := by kernel_rfl

/-- congou/shares.match -/
def f25A : AFunc :=
{ nargs := 1, res := [.t 2], body :=
  (.seq
   (.reg none [⟨(some 1), .box (.t 0), none⟩,
     ⟨(some 2), .mv (.c .nils), none⟩])
   (.seq
    (.reg none [⟨(some 5), .load none (.t 1), none⟩,
      ⟨(some 6), .len (.t 5), none⟩,
      ⟨(some 3), .alloc [(.int .i64 0)], none⟩,
      ⟨none, .store 1 (.t 3) (.t 6), none⟩])
    (.seq
     (.reg none [⟨(some 4), .alloc [.nilf], none⟩])
     (.seq
      (.reg none [⟨(some 7), .mkfn 42 [] [(.t 3), (.t 1), (.t 4)], none⟩,
        ⟨none, .store 1 (.t 4) (.t 7), none⟩])
      (.seq
       (.reg none [⟨(some 8), .load none (.t 4), none⟩,
         ⟨(some 9), .callv (.t 8) [(.c .nils), (.c (.int .i64 0))], none⟩,
         ⟨(some 2), .mv (.t 9), none⟩])
       .ret))))) }
theorem f25P : prepF C Try.f25 = some f25A := by kernel_rfl

/-- congou/shares.frac -/
def f26A : AFunc :=
{ nargs := 2, res := [.c 4 (some 2)], body :=
  (.seq
   (.reg none [⟨(some 4), .alloc [(.int .i64 0), (.int .i64 0)], none⟩])
   (.seq
    (.reg none [⟨(some 6), .mv (.t 0), none⟩,
      ⟨(some 7), .mv (.t 1), none⟩,
      ⟨(some 8), .call 43 [(.t 6), (.t 7)], none⟩,
      ⟨(some 5), .mv (.t 8), none⟩])
    (.seq
     (.reg (some []) [⟨(some 9), .mv (.t 0), none⟩,
       ⟨(some 10), .mv (.t 5), none⟩,
       ⟨(some 11), .bin .quo (.t 9) (.t 10), none⟩,
       ⟨(some 12), .mv (.t 1), none⟩,
       ⟨(some 13), .mv (.t 5), none⟩,
       ⟨(some 14), .bin .quo (.t 12) (.t 13), none⟩,
       ⟨(some 15), .build [(.int .i64 0), (.int .i64 0)] [(0, 1, (.t 11)), (1, 1, (.t 14))], none⟩,
       ⟨none, .store 2 (.t 4) (.t 15), none⟩])
     .ret))) }
theorem f26P : prepF C Try.f26 = some f26A := by kernel_rfl

/-- (congou/shares.mixture).multiple -/
def f27A : AFunc :=
{ nargs := 2, res := [.t 4, .t 5], body :=
  (.seq
   (.reg none [⟨(some 4), .mv (.c (.int .i64 0)), none⟩,
     ⟨(some 5), .mv (.c (.b false)), none⟩])
   (.seq
    (.reg none [⟨(some 4), .mv (.c (.int .i64 1)), none⟩])
    (.seq
     (.seq
      (.reg none [⟨(some 10), .mv (.t 0), none⟩,
        ⟨(some 11), .len (.t 10), none⟩,
        ⟨(some 12), .mv (.c (.int .i64 0)), none⟩])
      (.block 0
       (.loop
        (.seq
         (.reg none [⟨(some 13), .bin .lss (.t 12) (.t 11), none⟩])
         (.seq
          (.cond (.t 13)
           .skip
           (.exit 0))
          (.seq
           (.block 1
            (.seq
             (.reg none [⟨(some 14), .iaddr 1 (.t 10) (.t 12), none⟩,
               ⟨(some 15), .load none (.t 14), none⟩,
               ⟨(some 7), .mv (.t 15), none⟩])
             (.seq
              (.reg none [⟨(some 16), .mv (.t 7), none⟩,
                ⟨(some 17), .len (.t 16), none⟩,
                ⟨(some 18), .mv (.c (.int .i64 0)), none⟩])
              (.block 2
               (.loop
                (.seq
                 (.reg none [⟨(some 19), .bin .lss (.t 18) (.t 17), none⟩])
                 (.seq
                  (.cond (.t 19)
                   .skip
                   (.exit 2))
                  (.seq
                   (.block 3
                    (.seq
                     (.reg none [⟨(some 20), .iaddr 2 (.t 16) (.t 18), none⟩,
                       ⟨(some 21), .load (some 2) (.t 20), none⟩,
                       ⟨(some 9), .alloc [(.int .i64 0), (.int .i64 0)], none⟩,
                       ⟨none, .store 2 (.t 9) (.t 21), none⟩])
                     (.seq
                      (.seq
                       (.reg none [⟨(some 22), .load (some 2) (.t 9), none⟩,
                         ⟨(some 23), .call 44 [(.t 22)], none⟩,
                         ⟨(some 24), .un .not (.t 23), none⟩,
                         ⟨(some 25), .mv (.t 24), none⟩,
                         ⟨(some 26), .faddr 1 (.t 9), some (25, false)⟩,
                         ⟨(some 27), .load none (.t 26), some (25, false)⟩,
                         ⟨(some 28), .mv (.t 1), some (25, false)⟩,
                         ⟨(some 29), .bin .gtr (.t 27) (.t 28), some (25, false)⟩,
                         ⟨(some 30), .pick (.t 25) (.c (.b true)) (.t 29), none⟩])
                       (.cond (.t 30)
                        (.seq
                         (.reg none [⟨(some 4), .mv (.c (.int .i64 0)), none⟩,
                           ⟨(some 5), .mv (.c (.b false)), none⟩])
                         .ret)
                        .skip))
                      (.seq
                       (.reg (some []) [⟨(some 31), .mv (.t 4), none⟩,
                         ⟨(some 32), .mv (.t 4), none⟩,
                         ⟨(some 33), .faddr 1 (.t 9), none⟩,
                         ⟨(some 34), .load none (.t 33), none⟩,
                         ⟨(some 35), .call 43 [(.t 32), (.t 34)], none⟩,
                         ⟨(some 36), .bin .quo (.t 31) (.t 35), none⟩,
                         ⟨(some 37), .faddr 1 (.t 9), none⟩,
                         ⟨(some 38), .load none (.t 37), none⟩,
                         ⟨(some 39), .bin .mul (.t 36) (.t 38), none⟩,
                         ⟨(some 4), .mv (.t 39), none⟩])
                       (.seq
                        (.reg none [⟨(some 40), .mv (.t 4), none⟩,
                          ⟨(some 41), .mv (.t 1), none⟩,
                          ⟨(some 42), .bin .gtr (.t 40) (.t 41), none⟩])
                        (.cond (.t 42)
                         (.seq
                          (.reg none [⟨(some 4), .mv (.c (.int .i64 0)), none⟩,
                            ⟨(some 5), .mv (.c (.b false)), none⟩])
                          .ret)
                         .skip))))))
                   (.reg none [⟨(some 43), .bin .add (.t 18) (.c (.int .i64 1)), none⟩,
                     ⟨(some 18), .mv (.t 43), none⟩])))))))))
           (.reg none [⟨(some 44), .bin .add (.t 12) (.c (.int .i64 1)), none⟩,
             ⟨(some 12), .mv (.t 44), none⟩])))))))
     (.seq
      (.reg none [⟨(some 45), .mv (.t 4), none⟩,
        ⟨(some 4), .mv (.t 45), none⟩,
        ⟨(some 5), .mv (.c (.b true)), none⟩])
      .ret)))) }
theorem f27P : prepF C Try.f27 = some f27A := by kernel_rfl

/-- congou/shares.isPermutation -/
def f28A : AFunc :=
{ nargs := 2, res := [.t 4], body :=
  (.seq
   (.reg none [⟨(some 4), .mv (.c (.b false)), none⟩])
   (.seq
    (.reg none [⟨(some 5), .mv (.c (.int .i64 0)), none⟩])
    (.seq
     (.seq
      (.reg none [⟨(some 8), .mv (.t 0), none⟩,
        ⟨(some 9), .len (.t 8), none⟩,
        ⟨(some 10), .mv (.c (.int .i64 0)), none⟩])
      (.block 0
       (.loop
        (.seq
         (.reg none [⟨(some 11), .bin .lss (.t 10) (.t 9), none⟩])
         (.seq
          (.cond (.t 11)
           .skip
           (.exit 0))
          (.seq
           (.block 1
            (.seq
             (.reg none [⟨(some 12), .iaddr 1 (.t 8) (.t 10), none⟩,
               ⟨(some 13), .load none (.t 12), none⟩,
               ⟨(some 7), .mv (.t 13), none⟩])
             (.seq
              (.seq
               (.reg none [⟨(some 14), .mv (.t 7), none⟩,
                 ⟨(some 15), .bin .lss (.t 14) (.c (.int .i64 0)), none⟩,
                 ⟨(some 16), .mv (.t 15), none⟩,
                 ⟨(some 17), .mv (.t 7), some (16, false)⟩,
                 ⟨(some 18), .mv (.t 1), some (16, false)⟩,
                 ⟨(some 19), .bin .geq (.t 17) (.t 18), some (16, false)⟩,
                 ⟨(some 20), .pick (.t 16) (.c (.b true)) (.t 19), none⟩])
               (.cond (.t 20)
                (.seq
                 (.reg none [⟨(some 4), .mv (.c (.b false)), none⟩])
                 .ret)
                .skip))
              (.reg none [⟨(some 21), .mv (.t 5), none⟩,
                ⟨(some 22), .mv (.t 7), none⟩,
                ⟨(some 23), .bin .shl (.c (.int .i64 1)) (.t 22), none⟩,
                ⟨(some 24), .bin .or (.t 21) (.t 23), none⟩,
                ⟨(some 5), .mv (.t 24), none⟩]))))
           (.reg none [⟨(some 25), .bin .add (.t 10) (.c (.int .i64 1)), none⟩,
             ⟨(some 10), .mv (.t 25), none⟩])))))))
     (.seq
      (.reg none [⟨(some 26), .mv (.t 0), none⟩,
        ⟨(some 27), .len (.t 26), none⟩,
        ⟨(some 28), .mv (.t 1), none⟩,
        ⟨(some 29), .bin .eql (.t 27) (.t 28), none⟩,
        ⟨(some 30), .mv (.t 29), none⟩,
        ⟨(some 31), .mv (.t 5), some (30, true)⟩,
        ⟨(some 32), .mv (.t 1), some (30, true)⟩,
        ⟨(some 33), .bin .shl (.c (.int .i64 1)) (.t 32), some (30, true)⟩,
        ⟨(some 34), .bin .sub (.t 33) (.c (.int .i64 1)), some (30, true)⟩,
        ⟨(some 35), .bin .eql (.t 31) (.t 34), some (30, true)⟩,
        ⟨(some 36), .pick (.t 30) (.t 35) (.c (.b false)), none⟩,
        ⟨(some 4), .mv (.t 36), none⟩])
      .ret)))) }
theorem f28P : prepF C Try.f28 = some f28A := by kernel_rfl

/-- congou/counts.isSums -/
def f39A : AFunc :=
{ nargs := 1, res := [.t 2], body :=
  (.seq
   (.reg none [⟨(some 2), .mv (.c (.b false)), none⟩])
   (.seq
    (.reg none [⟨(some 3), .mv (.c (.int .i64 0)), none⟩])
    (.seq
     (.seq
      (.reg none [⟨(some 6), .mv (.t 0), none⟩,
        ⟨(some 7), .len (.t 6), none⟩,
        ⟨(some 8), .mv (.c (.int .i64 0)), none⟩])
      (.block 0
       (.loop
        (.seq
         (.reg none [⟨(some 9), .bin .lss (.t 8) (.t 7), none⟩])
         (.seq
          (.cond (.t 9)
           .skip
           (.exit 0))
          (.seq
           (.block 1
            (.seq
             (.reg none [⟨(some 10), .iaddr 1 (.t 6) (.t 8), none⟩,
               ⟨(some 11), .load none (.t 10), none⟩,
               ⟨(some 5), .mv (.t 11), none⟩])
             (.seq
              (.seq
               (.reg none [⟨(some 12), .mv (.t 5), none⟩,
                 ⟨(some 13), .bin .lss (.t 12) (.c (.int .i64 0)), none⟩,
                 ⟨(some 14), .mv (.t 13), none⟩,
                 ⟨(some 15), .mv (.t 5), some (14, false)⟩,
                 ⟨(some 16), .bin .gtr (.t 15) (.c (.int .i64 16)), some (14, false)⟩,
                 ⟨(some 17), .pick (.t 14) (.c (.b true)) (.t 16), none⟩])
               (.cond (.t 17)
                (.seq
                 (.reg none [⟨(some 2), .mv (.c (.b false)), none⟩])
                 .ret)
                .skip))
              (.reg none [⟨(some 18), .mv (.t 3), none⟩,
                ⟨(some 19), .mv (.t 5), none⟩,
                ⟨(some 20), .bin .add (.t 18) (.t 19), none⟩,
                ⟨(some 3), .mv (.t 20), none⟩]))))
           (.reg none [⟨(some 21), .bin .add (.t 8) (.c (.int .i64 1)), none⟩,
             ⟨(some 8), .mv (.t 21), none⟩])))))))
     (.seq
      (.reg none [⟨(some 22), .mv (.t 3), none⟩,
        ⟨(some 23), .bin .leq (.t 22) (.c (.int .i64 16)), none⟩,
        ⟨(some 2), .mv (.t 23), none⟩])
      .ret)))) }
theorem f39P : prepF C Try.f39 = some f39A := by kernel_rfl

/-- (congou/shares.mixture).common -/
def f40A : AFunc :=
{ nargs := 3, res := [.t 6, .t 7], body :=
  (.seq
   (.reg none [⟨(some 4), .box (.t 1), none⟩,
     ⟨(some 6), .mv (.c (.int .i64 0)), none⟩,
     ⟨(some 7), .mv (.c (.b false)), none⟩])
   (.seq
    (.seq
     (.reg none [⟨(some 8), .mv (.t 0), none⟩,
       ⟨(some 9), .len (.t 8), none⟩,
       ⟨(some 10), .load none (.t 4), none⟩,
       ⟨(some 11), .bin .neq (.t 9) (.t 10), none⟩,
       ⟨(some 12), .mv (.t 11), none⟩,
       ⟨(some 13), .mv (.t 0), some (12, false)⟩,
       ⟨(some 14), .mkfn 53 [] [(.t 4)], some (12, false)⟩,
       ⟨(some 15), .call 52 [(.t 13), (.t 14)], some (12, false)⟩,
       ⟨(some 16), .pick (.t 12) (.c (.b true)) (.t 15), none⟩])
     (.cond (.t 16)
      (.seq
       (.reg none [⟨(some 6), .mv (.c (.int .i64 0)), none⟩,
         ⟨(some 7), .mv (.c (.b false)), none⟩])
       .ret)
      .skip))
    (.seq
     (.reg none [⟨(some 17), .mv (.t 0), none⟩,
       ⟨(some 18), .mv (.t 2), none⟩,
       ⟨(some 19), .call 27 [(.t 17), (.t 18)], none⟩,
       ⟨(some 20), .extr (.t 19) 0, none⟩,
       ⟨(some 21), .extr (.t 19) 1, none⟩,
       ⟨(some 6), .mv (.t 20), none⟩,
       ⟨(some 7), .mv (.t 21), none⟩])
     .ret))) }
theorem f40P : prepF C Try.f40 = some f40A := by kernel_rfl

/-- (congou/shares.mixture).parts -/
def f41A : AFunc :=
{ nargs := 2, res := [.t 4, .t 5], body :=
  (.seq
   (.reg none [⟨(some 3), .box (.t 1), none⟩,
     ⟨(some 4), .mv (.c .nils), none⟩,
     ⟨(some 5), .mv (.c (.b false)), none⟩])
   (.seq
    (.reg none [⟨(some 14), .mv (.t 0), none⟩,
      ⟨(some 15), .len (.t 14), none⟩,
      ⟨(some 16), .mkslice 1 8 [(.int .i64 0)] (.t 15), none⟩,
      ⟨(some 6), .mv (.t 16), none⟩])
    (.seq
     (.seq
      (.reg none [⟨(some 17), .mv (.t 0), none⟩,
        ⟨(some 18), .len (.t 17), none⟩,
        ⟨(some 19), .mv (.c (.int .i64 0)), none⟩])
      (.block 0
       (.loop
        (.seq
         (.reg none [⟨(some 20), .bin .lss (.t 19) (.t 18), none⟩])
         (.seq
          (.cond (.t 20)
           .skip
           (.exit 0))
          (.seq
           (.block 1
            (.seq
             (.reg none [⟨(some 21), .iaddr 1 (.t 17) (.t 19), none⟩,
               ⟨(some 22), .load none (.t 21), none⟩,
               ⟨(some 8), .mv (.t 22), none⟩])
             (.seq
              (.reg none [⟨(some 9), .mv (.c .nils), none⟩])
              (.seq
               (.reg none [⟨(some 10), .mv (.c (.int .i64 0)), none⟩])
               (.seq
                (.seq
                 (.reg none [⟨(some 23), .mv (.t 8), none⟩,
                   ⟨(some 24), .len (.t 23), none⟩,
                   ⟨(some 25), .mv (.c (.int .i64 0)), none⟩])
                 (.block 2
                  (.loop
                   (.seq
                    (.reg none [⟨(some 26), .bin .lss (.t 25) (.t 24), none⟩])
                    (.seq
                     (.cond (.t 26)
                      .skip
                      (.exit 2))
                     (.seq
                      (.block 3
                       (.seq
                        (.reg none [⟨(some 27), .mv (.t 25), none⟩,
                          ⟨(some 28), .iaddr 2 (.t 23) (.t 25), none⟩,
                          ⟨(some 29), .load (some 2) (.t 28), none⟩,
                          ⟨(some 12), .alloc [(.int .i64 0), (.int .i64 0)], none⟩,
                          ⟨(some 11), .mv (.t 27), none⟩,
                          ⟨none, .store 2 (.t 12) (.t 29), none⟩])
                        (.seq
                         (.reg (some []) [⟨(some 30), .faddr 0 (.t 12), none⟩,
                           ⟨(some 31), .load none (.t 30), none⟩,
                           ⟨(some 32), .load none (.t 3), none⟩,
                           ⟨(some 33), .faddr 1 (.t 12), none⟩,
                           ⟨(some 34), .load none (.t 33), none⟩,
                           ⟨(some 35), .bin .quo (.t 32) (.t 34), none⟩,
                           ⟨(some 36), .bin .mul (.t 31) (.t 35), none⟩,
                           ⟨(some 13), .mv (.t 36), none⟩])
                         (.seq
                          (.reg none [⟨(some 37), .mv (.t 9), none⟩,
                            ⟨(some 38), .mv (.t 13), none⟩,
                            ⟨(some 39), .bslice [(.int .i64 0)] 1 1 [(0, (.t 38))], none⟩,
                            ⟨(some 40), .append 1 8 (.t 37) (.t 39), none⟩,
                            ⟨(some 9), .mv (.t 40), none⟩])
                          (.seq
                           (.reg none [⟨(some 41), .mv (.t 10), none⟩,
                             ⟨(some 42), .mv (.t 13), none⟩,
                             ⟨(some 43), .bin .add (.t 41) (.t 42), none⟩,
                             ⟨(some 10), .mv (.t 43), none⟩])
                           (.reg none [⟨(some 44), .mv (.t 6), none⟩,
                             ⟨(some 45), .mv (.t 11), none⟩,
                             ⟨(some 46), .iaddr 1 (.t 44) (.t 45), none⟩,
                             ⟨(some 47), .load none (.t 46), none⟩,
                             ⟨(some 48), .mv (.t 13), none⟩,
                             ⟨(some 49), .bin .add (.t 47) (.t 48), none⟩,
                             ⟨(some 50), .iaddr 1 (.t 44) (.t 45), none⟩,
                             ⟨none, .store 1 (.t 50) (.t 49), none⟩]))))))
                      (.reg none [⟨(some 51), .bin .add (.t 25) (.c (.int .i64 1)), none⟩,
                        ⟨(some 25), .mv (.t 51), none⟩])))))))
                (.seq
                 (.seq
                  (.reg none [⟨(some 52), .mv (.t 10), none⟩,
                    ⟨(some 53), .load none (.t 3), none⟩,
                    ⟨(some 54), .bin .neq (.t 52) (.t 53), none⟩])
                  (.cond (.t 54)
                   (.seq
                    (.reg none [⟨(some 4), .mv (.c .nils), none⟩,
                      ⟨(some 5), .mv (.c (.b false)), none⟩])
                    .ret)
                   .skip))
                 (.reg none [⟨(some 55), .mv (.t 4), none⟩,
                   ⟨(some 56), .mv (.t 9), none⟩,
                   ⟨(some 57), .bslice [.nils] 1 1 [(0, (.t 56))], none⟩,
                   ⟨(some 58), .append 1 24 (.t 55) (.t 57), none⟩,
                   ⟨(some 4), .mv (.t 58), none⟩])))))))
           (.reg none [⟨(some 59), .bin .add (.t 19) (.c (.int .i64 1)), none⟩,
             ⟨(some 19), .mv (.t 59), none⟩])))))))
     (.seq
      (.reg none [⟨(some 60), .mv (.t 4), none⟩,
        ⟨(some 61), .mv (.t 6), none⟩,
        ⟨(some 62), .mkfn 55 [] [(.t 3)], none⟩,
        ⟨(some 63), .call 54 [(.t 61), (.t 62)], none⟩,
        ⟨(some 64), .un .not (.t 63), none⟩,
        ⟨(some 4), .mv (.t 60), none⟩,
        ⟨(some 5), .mv (.t 64), none⟩])
      .ret)))) }
theorem f41P : prepF C Try.f41 = some f41A := by kernel_rfl

/-- congou/shares.match$1 -/
def f42A : AFunc :=
{ nargs := 5, res := [.t 7], body :=
  (.seq
   (.reg none [⟨(some 7), .mv (.c .nils), none⟩])
   (.seq
    (.seq
     (.reg none [⟨(some 11), .mv (.t 0), none⟩,
       ⟨(some 12), .len (.t 11), none⟩,
       ⟨(some 13), .load none (.t 2), none⟩,
       ⟨(some 14), .bin .eql (.t 12) (.t 13), none⟩])
     (.cond (.t 14)
      (.seq
       (.reg none [⟨(some 15), .mv (.t 0), none⟩,
         ⟨(some 7), .mv (.t 15), none⟩])
       .ret)
      .skip))
    (.seq
     (.seq
      (.reg none [⟨(some 16), .load none (.t 3), none⟩,
        ⟨(some 17), .mv (.t 0), none⟩,
        ⟨(some 18), .len (.t 17), none⟩,
        ⟨(some 19), .iaddr 1 (.t 16) (.t 18), none⟩,
        ⟨(some 20), .load none (.t 19), none⟩,
        ⟨(some 21), .len (.t 20), none⟩,
        ⟨(some 22), .mv (.c (.int .i64 0)), none⟩])
      (.block 0
       (.loop
        (.seq
         (.reg none [⟨(some 23), .bin .lss (.t 22) (.t 21), none⟩])
         (.seq
          (.cond (.t 23)
           .skip
           (.exit 0))
          (.seq
           (.block 1
            (.seq
             (.reg none [⟨(some 24), .mv (.t 22), none⟩,
               ⟨(some 25), .iaddr 1 (.t 20) (.t 22), none⟩,
               ⟨(some 26), .load none (.t 25), none⟩,
               ⟨(some 8), .mv (.t 24), none⟩,
               ⟨(some 9), .mv (.t 26), none⟩])
             (.seq
              (.reg none [⟨(some 27), .mv (.t 9), none⟩,
                ⟨(some 28), .bin .gtr (.t 27) (.c (.int .i64 0)), none⟩,
                ⟨(some 29), .mv (.t 28), none⟩,
                ⟨(some 30), .mv (.t 1), some (29, true)⟩,
                ⟨(some 31), .mv (.t 8), some (29, true)⟩,
                ⟨(some 32), .bin .shr (.t 30) (.t 31), some (29, true)⟩,
                ⟨(some 33), .bin .and (.t 32) (.c (.int .i64 1)), some (29, true)⟩,
                ⟨(some 34), .bin .eql (.t 33) (.c (.int .i64 0)), some (29, true)⟩,
                ⟨(some 35), .pick (.t 29) (.t 34) (.c (.b false)), none⟩])
              (.cond (.t 35)
               (.seq
                (.reg (some [(0, 9)]) [⟨(some 36), .load none (.t 4), none⟩,
                  ⟨(some 37), .mv (.t 0), none⟩,
                  ⟨(some 38), .mv (.t 0), none⟩,
                  ⟨(some 39), .len (.t 38), none⟩,
                  ⟨(some 40), .mv (.t 0), none⟩,
                  ⟨(some 41), .len (.t 40), none⟩,
                  ⟨(some 42), .slice 1 (.t 37) none (some (.t 39)) (some (.t 41)), none⟩,
                  ⟨(some 43), .mv (.t 8), none⟩,
                  ⟨(some 44), .bslice [(.int .i64 0)] 1 1 [(0, (.t 43))], none⟩,
                  ⟨(some 45), .append 1 8 (.t 42) (.t 44), none⟩,
                  ⟨(some 46), .mv (.t 1), none⟩,
                  ⟨(some 47), .mv (.t 8), none⟩,
                  ⟨(some 48), .bin .shl (.c (.int .i64 1)) (.t 47), none⟩,
                  ⟨(some 49), .bin .or (.t 46) (.t 48), none⟩,
                  ⟨(some 50), .callv (.t 36) [(.t 45), (.t 49)], none⟩,
                  ⟨(some 10), .mv (.t 50), none⟩])
                (.seq
                 (.reg none [⟨(some 51), .mv (.t 10), none⟩,
                   ⟨(some 52), .seq true (.t 51) (.c .nils), none⟩])
                 (.cond (.t 52)
                  (.seq
                   (.reg none [⟨(some 53), .mv (.t 10), none⟩,
                     ⟨(some 7), .mv (.t 53), none⟩])
                   .ret)
                  .skip)))
               .skip))))
           (.reg none [⟨(some 54), .bin .add (.t 22) (.c (.int .i64 1)), none⟩,
             ⟨(some 22), .mv (.t 54), none⟩])))))))
     (.seq
      (.reg none [⟨(some 7), .mv (.c .nils), none⟩])
      .ret)))) }
theorem f42P : prepF C Try.f42 = some f42A := by kernel_rfl

/-- congou/shares.gcd -/
def f43A : AFunc :=
{ nargs := 2, res := [.t 4], body :=
  (.seq
   (.reg none [⟨(some 4), .mv (.c (.int .i64 0)), none⟩])
   (.seq
    (.block 0
     (.loop
      (.seq
       (.seq
        (.reg none [⟨(some 5), .mv (.t 1), none⟩,
          ⟨(some 6), .bin .neq (.t 5) (.c (.int .i64 0)), none⟩])
        (.cond (.t 6)
         .skip
         (.exit 0)))
       (.block 1
        (.reg (some []) [⟨(some 7), .mv (.t 1), none⟩,
          ⟨(some 8), .mv (.t 0), none⟩,
          ⟨(some 9), .mv (.t 1), none⟩,
          ⟨(some 10), .bin .rem (.t 8) (.t 9), none⟩,
          ⟨(some 0), .mv (.t 7), none⟩,
          ⟨(some 1), .mv (.t 10), none⟩])))))
    (.seq
     (.reg none [⟨(some 11), .mv (.t 0), none⟩,
       ⟨(some 12), .mv (.t 0), none⟩,
       ⟨(some 13), .un .neg (.t 12), none⟩,
       ⟨(some 14), .mx [(.t 11), (.t 13)], none⟩,
       ⟨(some 4), .mv (.t 14), none⟩])
     .ret))) }
theorem f43P : prepF C Try.f43 = some f43A := by kernel_rfl

/-- congou/shares.isFrac -/
def f44A : AFunc :=
{ nargs := 1, res := [.t 2], body :=
  (.seq
   (.reg none [⟨(some 1), .box (.t 0), none⟩,
     ⟨(some 2), .mv (.c (.b false)), none⟩])
   (.seq
    (.reg none [⟨(some 3), .faddr 1 (.t 1), none⟩,
      ⟨(some 4), .load none (.t 3), none⟩,
      ⟨(some 5), .bin .geq (.t 4) (.c (.int .i64 1)), none⟩,
      ⟨(some 6), .mv (.t 5), none⟩,
      ⟨(some 7), .faddr 0 (.t 1), some (6, true)⟩,
      ⟨(some 8), .load none (.t 7), some (6, true)⟩,
      ⟨(some 9), .bin .geq (.t 8) (.c (.int .i64 0)), some (6, true)⟩,
      ⟨(some 10), .pick (.t 6) (.t 9) (.c (.b false)), none⟩,
      ⟨(some 11), .mv (.t 10), none⟩,
      ⟨(some 12), .faddr 0 (.t 1), some (11, true)⟩,
      ⟨(some 13), .load none (.t 12), some (11, true)⟩,
      ⟨(some 14), .faddr 1 (.t 1), some (11, true)⟩,
      ⟨(some 15), .load none (.t 14), some (11, true)⟩,
      ⟨(some 16), .bin .leq (.t 13) (.t 15), some (11, true)⟩,
      ⟨(some 17), .pick (.t 11) (.t 16) (.c (.b false)), none⟩,
      ⟨(some 18), .mv (.t 17), none⟩,
      ⟨(some 19), .faddr 0 (.t 1), some (18, true)⟩,
      ⟨(some 20), .load none (.t 19), some (18, true)⟩,
      ⟨(some 21), .faddr 1 (.t 1), some (18, true)⟩,
      ⟨(some 22), .load none (.t 21), some (18, true)⟩,
      ⟨(some 23), .call 43 [(.t 20), (.t 22)], some (18, true)⟩,
      ⟨(some 24), .bin .eql (.t 23) (.c (.int .i64 1)), some (18, true)⟩,
      ⟨(some 25), .pick (.t 18) (.t 24) (.c (.b false)), none⟩,
      ⟨(some 2), .mv (.t 25), none⟩])
    .ret)) }
theorem f44P : prepF C Try.f44 = some f44A := by kernel_rfl

/-- slices.ContainsFunc[congou/shares.mixture,[]congou/api.Frac] -/
def f52A : AFunc :=
{ nargs := 2, res := [.t 4], body :=
  (.seq
   (.reg none [⟨(some 4), .mv (.c (.b false)), none⟩])
   (.seq
    (.reg none [⟨(some 5), .mv (.t 0), none⟩,
      ⟨(some 6), .mv (.t 1), none⟩,
      ⟨(some 7), .call 60 [(.t 5), (.t 6)], none⟩,
      ⟨(some 8), .bin .geq (.t 7) (.c (.int .i64 0)), none⟩,
      ⟨(some 4), .mv (.t 8), none⟩])
    .ret)) }
theorem f52P : prepF C Try.f52 = some f52A := by kernel_rfl

/-- (congou/shares.mixture).common$1 -/
def f53A : AFunc :=
{ nargs := 2, res := [.t 3], body :=
  (.seq
   (.reg none [⟨(some 3), .mv (.c (.b false)), none⟩])
   (.seq
    (.reg none [⟨(some 4), .mv (.t 0), none⟩,
      ⟨(some 5), .len (.t 4), none⟩,
      ⟨(some 6), .load none (.t 1), none⟩,
      ⟨(some 7), .bin .neq (.t 5) (.t 6), none⟩,
      ⟨(some 3), .mv (.t 7), none⟩])
    .ret)) }
theorem f53P : prepF C Try.f53 = some f53A := by kernel_rfl

/-- slices.ContainsFunc[[]int,int] -/
def f54A : AFunc :=
{ nargs := 2, res := [.t 4], body :=
  (.seq
   (.reg none [⟨(some 4), .mv (.c (.b false)), none⟩])
   (.seq
    (.reg none [⟨(some 5), .mv (.t 0), none⟩,
      ⟨(some 6), .mv (.t 1), none⟩,
      ⟨(some 7), .call 61 [(.t 5), (.t 6)], none⟩,
      ⟨(some 8), .bin .geq (.t 7) (.c (.int .i64 0)), none⟩,
      ⟨(some 4), .mv (.t 8), none⟩])
    .ret)) }
theorem f54P : prepF C Try.f54 = some f54A := by kernel_rfl

/-- (congou/shares.mixture).parts$1 -/
def f55A : AFunc :=
{ nargs := 2, res := [.t 3], body :=
  (.seq
   (.reg none [⟨(some 3), .mv (.c (.b false)), none⟩])
   (.seq
    (.reg none [⟨(some 4), .mv (.t 0), none⟩,
      ⟨(some 5), .load none (.t 1), none⟩,
      ⟨(some 6), .bin .neq (.t 4) (.t 5), none⟩,
      ⟨(some 3), .mv (.t 6), none⟩])
    .ret)) }
theorem f55P : prepF C Try.f55 = some f55A := by kernel_rfl

/-- slices.IndexFunc[congou/shares.mixture,[]congou/api.Frac] -/
def f60A : AFunc :=
{ nargs := 2, res := [.t 4], body :=
  (.seq
   (.reg none [⟨(some 4), .mv (.c (.int .i64 0)), none⟩])
   (.seq
    (.seq
     (.reg none [⟨(some 6), .mv (.t 0), none⟩,
       ⟨(some 7), .len (.t 6), none⟩,
       ⟨(some 8), .mv (.c (.int .i64 0)), none⟩])
     (.block 0
      (.loop
       (.seq
        (.reg none [⟨(some 9), .bin .lss (.t 8) (.t 7), none⟩])
        (.seq
         (.cond (.t 9)
          .skip
          (.exit 0))
         (.seq
          (.block 1
           (.seq
            (.reg none [⟨(some 10), .mv (.t 8), none⟩,
              ⟨(some 5), .mv (.t 10), none⟩])
            (.seq
             (.reg none [⟨(some 11), .mv (.t 1), none⟩,
               ⟨(some 12), .mv (.t 0), none⟩,
               ⟨(some 13), .mv (.t 5), none⟩,
               ⟨(some 14), .iaddr 1 (.t 12) (.t 13), none⟩,
               ⟨(some 15), .load none (.t 14), none⟩,
               ⟨(some 16), .callv (.t 11) [(.t 15)], none⟩])
             (.cond (.t 16)
              (.seq
               (.reg none [⟨(some 17), .mv (.t 5), none⟩,
                 ⟨(some 4), .mv (.t 17), none⟩])
               .ret)
              .skip))))
          (.reg none [⟨(some 18), .bin .add (.t 8) (.c (.int .i64 1)), none⟩,
            ⟨(some 8), .mv (.t 18), none⟩])))))))
    (.seq
     (.reg none [⟨(some 4), .mv (.c (.int .i64 (-1))), none⟩])
     .ret))) }
theorem f60P : prepF C Try.f60 = some f60A := by kernel_rfl

/-- slices.IndexFunc[[]int,int] -/
def f61A : AFunc :=
{ nargs := 2, res := [.t 4], body :=
  (.seq
   (.reg none [⟨(some 4), .mv (.c (.int .i64 0)), none⟩])
   (.seq
    (.seq
     (.reg none [⟨(some 6), .mv (.t 0), none⟩,
       ⟨(some 7), .len (.t 6), none⟩,
       ⟨(some 8), .mv (.c (.int .i64 0)), none⟩])
     (.block 0
      (.loop
       (.seq
        (.reg none [⟨(some 9), .bin .lss (.t 8) (.t 7), none⟩])
        (.seq
         (.cond (.t 9)
          .skip
          (.exit 0))
         (.seq
          (.block 1
           (.seq
            (.reg none [⟨(some 10), .mv (.t 8), none⟩,
              ⟨(some 5), .mv (.t 10), none⟩])
            (.seq
             (.reg none [⟨(some 11), .mv (.t 1), none⟩,
               ⟨(some 12), .mv (.t 0), none⟩,
               ⟨(some 13), .mv (.t 5), none⟩,
               ⟨(some 14), .iaddr 1 (.t 12) (.t 13), none⟩,
               ⟨(some 15), .load none (.t 14), none⟩,
               ⟨(some 16), .callv (.t 11) [(.t 15)], none⟩])
             (.cond (.t 16)
              (.seq
               (.reg none [⟨(some 17), .mv (.t 5), none⟩,
                 ⟨(some 4), .mv (.t 17), none⟩])
               .ret)
              .skip))))
          (.reg none [⟨(some 18), .bin .add (.t 8) (.c (.int .i64 1)), none⟩,
            ⟨(some 8), .mv (.t 18), none⟩])))))))
    (.seq
     (.reg none [⟨(some 4), .mv (.c (.int .i64 (-1))), none⟩])
     .ret))) }
theorem f61P : prepF C Try.f61 = some f61A := by kernel_rfl

end Go.Proofs.Ytmmbakggmlfffaa
