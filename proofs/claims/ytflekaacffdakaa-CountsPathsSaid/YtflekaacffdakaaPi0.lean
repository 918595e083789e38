/- The abstract forms of the functions that are needed, each checked against the translation. No condition. -/
import Derived.Test.YtflekaacffdakaaAm1
import Derived.Test.YtflekaacffdakaaProg
namespace Go.Proofs.Ytflekaacffdakaa
open Go Go.AM Go.Proofs

/-- the seat's program; the types whose comparison is taken; the functions that may write to what is older -/
def kd : Nat → Kd := fun f => if [68, 80, 100].contains f then .wrt else if [23].contains f then .closed else .ro
noncomputable def C : Cfg := { P := Try.prog, eqT := fun t => if t == 37 then some 2 else if t == 88 then some 3 else none, kd := kd, keyT := fun t => if t == 94 then some 9 else none }
/-- congou/congoulaw06.CountsPaths -/
def f17A : AFunc :=
{ nargs := 3, res := [.t 6], body :=
  (.seq
   (.reg none [⟨(some 6), .mv (.c (.b false)), none⟩])
   (.seq
    (.reg none [⟨(some 12), .mv (.t 0), none⟩,
      ⟨(some 13), .call 20 [(.t 12)], none⟩,
      ⟨(some 14), .mv (.t 1), none⟩,
      ⟨(some 15), .call 20 [(.t 14)], none⟩,
      ⟨(some 16), .call 60 [(.t 13), (.t 15)], none⟩,
      ⟨(some 11), .mv (.t 16), none⟩,
      ⟨(some 17), .extr (.t 11) 0, none⟩,
      ⟨(some 18), .extr (.t 11) 1, none⟩,
      ⟨(some 7), .mv (.t 17), none⟩,
      ⟨(some 8), .mv (.t 18), none⟩])
    (.seq
     (.reg none [⟨(some 20), .mv (.t 0), none⟩,
       ⟨(some 21), .call 20 [(.t 20)], none⟩,
       ⟨(some 22), .mv (.t 1), none⟩,
       ⟨(some 23), .call 20 [(.t 22)], none⟩,
       ⟨(some 24), .mv (.t 2), none⟩,
       ⟨(some 25), .call 62 [(.t 24)], none⟩,
       ⟨(some 26), .call 61 [(.t 21), (.t 23), (.t 25)], none⟩,
       ⟨(some 19), .mv (.t 26), none⟩,
       ⟨(some 27), .extr (.t 19) 0, none⟩,
       ⟨(some 28), .extr (.t 19) 1, none⟩,
       ⟨(some 9), .mv (.t 27), none⟩,
       ⟨(some 10), .mv (.t 28), none⟩])
     (.seq
      (.seq
       (.reg none [⟨(some 29), .mv (.t 0), none⟩,
         ⟨(some 30), .call 22 [(.t 29)], none⟩,
         ⟨(some 31), .un .not (.t 30), none⟩,
         ⟨(some 32), .mv (.t 31), none⟩,
         ⟨(some 33), .mv (.t 1), some (32, false)⟩,
         ⟨(some 34), .call 22 [(.t 33)], some (32, false)⟩,
         ⟨(some 35), .un .not (.t 34), some (32, false)⟩,
         ⟨(some 36), .pick (.t 32) (.c (.b true)) (.t 35), none⟩])
       (.cond (.t 36)
        (.seq
         (.reg none [⟨(some 37), .mv (.t 7), none⟩,
           ⟨(some 38), .len (.t 37), none⟩,
           ⟨(some 39), .bin .eql (.t 38) (.c (.int .i64 0)), none⟩,
           ⟨(some 40), .mv (.t 39), none⟩,
           ⟨(some 41), .mv (.t 9), some (40, true)⟩,
           ⟨(some 42), .un .not (.t 41), some (40, true)⟩,
           ⟨(some 43), .pick (.t 40) (.t 42) (.c (.b false)), none⟩,
           ⟨(some 44), .mv (.t 43), none⟩,
           ⟨(some 45), .mv (.t 8), some (44, true)⟩,
           ⟨(some 46), .bin .eql (.t 45) (.c (.int .i64 2)), some (44, true)⟩,
           ⟨(some 47), .pick (.t 44) (.t 46) (.c (.b false)), none⟩,
           ⟨(some 48), .mv (.t 47), none⟩,
           ⟨(some 49), .mv (.t 10), some (48, true)⟩,
           ⟨(some 50), .bin .eql (.t 49) (.c (.int .i64 2)), some (48, true)⟩,
           ⟨(some 51), .pick (.t 48) (.t 50) (.c (.b false)), none⟩,
           ⟨(some 52), .mv (.t 51), none⟩,
           ⟨(some 53), .call 23 [], some (52, true)⟩,
           ⟨(some 54), .pick (.t 52) (.t 53) (.c (.b false)), none⟩,
           ⟨(some 6), .mv (.t 54), none⟩])
         .ret)
        .skip))
      (.seq
       (.seq
        (.reg none [⟨(some 55), .mv (.t 0), none⟩,
          ⟨(some 56), .mv (.t 1), none⟩,
          ⟨(some 57), .call 63 [(.t 55), (.t 56)], none⟩,
          ⟨(some 58), .un .not (.t 57), none⟩])
        (.cond (.t 58)
         (.seq
          (.reg none [⟨(some 59), .mv (.t 7), none⟩,
            ⟨(some 60), .len (.t 59), none⟩,
            ⟨(some 61), .bin .neq (.t 60) (.c (.int .i64 0)), none⟩,
            ⟨(some 62), .mv (.t 61), none⟩,
            ⟨(some 63), .mv (.t 8), some (62, false)⟩,
            ⟨(some 64), .bin .neq (.t 63) (.c (.int .i64 4)), some (62, false)⟩,
            ⟨(some 65), .pick (.t 62) (.c (.b true)) (.t 64), none⟩])
          (.cond (.t 65)
           (.seq
            (.reg none [⟨(some 6), .mv (.c (.b false)), none⟩])
            .ret)
           .skip))
         (.seq
          (.reg none [⟨(some 66), .mv (.t 8), none⟩,
            ⟨(some 67), .bin .neq (.t 66) (.c (.int .i64 0)), none⟩,
            ⟨(some 68), .mv (.t 67), none⟩,
            ⟨(some 69), .mv (.t 0), some (68, false)⟩,
            ⟨(some 70), .mv (.t 1), some (68, false)⟩,
            ⟨(some 71), .mv (.t 7), some (68, false)⟩,
            ⟨(some 72), .call 64 [(.t 69), (.t 70), (.t 71)], some (68, false)⟩,
            ⟨(some 73), .un .not (.t 72), some (68, false)⟩,
            ⟨(some 74), .pick (.t 68) (.c (.b true)) (.t 73), none⟩,
            ⟨(some 75), .mv (.t 74), none⟩,
            ⟨(some 76), .mv (.t 7), some (75, false)⟩,
            ⟨(some 77), .len (.t 76), some (75, false)⟩,
            ⟨(some 78), .mv (.t 0), some (75, false)⟩,
            ⟨(some 79), .mv (.t 1), some (75, false)⟩,
            ⟨(some 80), .call 65 [(.t 78), (.t 79)], some (75, false)⟩,
            ⟨(some 81), .bin .add (.t 80) (.c (.int .i64 1)), some (75, false)⟩,
            ⟨(some 82), .bin .neq (.t 77) (.t 81), some (75, false)⟩,
            ⟨(some 83), .pick (.t 75) (.c (.b true)) (.t 82), none⟩])
          (.cond (.t 83)
           (.seq
            (.reg none [⟨(some 6), .mv (.c (.b false)), none⟩])
            .ret)
           .skip))))
       (.seq
        (.reg none [⟨(some 84), .mv (.t 10), none⟩,
          ⟨(some 85), .bin .eql (.t 84) (.c (.int .i64 0)), none⟩,
          ⟨(some 86), .mv (.t 85), none⟩,
          ⟨(some 87), .mv (.t 2), some (86, true)⟩,
          ⟨(some 88), .len (.t 87), some (86, true)⟩,
          ⟨(some 89), .bin .gtr (.t 88) (.c (.int .i64 40)), some (86, true)⟩,
          ⟨(some 90), .mv (.t 89), some (86, true)⟩,
          ⟨(some 91), .mv (.t 9), some (90, false)⟩,
          ⟨(some 92), .mv (.t 0), some (90, false)⟩,
          ⟨(some 93), .mv (.t 1), some (90, false)⟩,
          ⟨(some 94), .mv (.t 2), some (90, false)⟩,
          ⟨(some 95), .call 64 [(.t 92), (.t 93), (.t 94)], some (90, false)⟩,
          ⟨(some 96), .beq false (.t 91) (.t 95), some (90, false)⟩,
          ⟨(some 97), .pick (.t 90) (.c (.b true)) (.t 96), some (86, true)⟩,
          ⟨(some 98), .pick (.t 86) (.t 97) (.c (.b false)), none⟩,
          ⟨(some 99), .mv (.t 98), none⟩,
          ⟨(some 100), .call 23 [], some (99, true)⟩,
          ⟨(some 101), .pick (.t 99) (.t 100) (.c (.b false)), none⟩,
          ⟨(some 6), .mv (.t 101), none⟩])
        .ret)))))) }
theorem f17P : prepF C Try.f17 = some f17A := by kernel_rfl

/-- congou/counts.Sums -/
def f19A : AFunc :=
{ nargs := 1, res := [.t 2, .t 3, .t 4], body :=
  (.seq
   (.reg none [⟨(some 2), .mv (.c .nils), none⟩,
     ⟨(some 3), .mv (.c .nils), none⟩,
     ⟨(some 4), .mv (.c (.int .i64 0)), none⟩])
   (.seq
    (.seq
     (.reg none [⟨(some 5), .mv (.t 0), none⟩,
       ⟨(some 6), .call 70 [(.t 5)], none⟩,
       ⟨(some 7), .un .not (.t 6), none⟩])
     (.cond (.t 7)
      (.seq
       (.reg none [⟨(some 2), .mv (.c .nils), none⟩,
         ⟨(some 3), .mv (.c .nils), none⟩,
         ⟨(some 4), .mv (.c (.int .i64 2)), none⟩])
       .ret)
      .skip))
    (.seq
     (.reg none [⟨(some 9), .mv (.t 0), none⟩,
       ⟨(some 10), .call 71 [(.t 9)], none⟩,
       ⟨(some 8), .mv (.t 10), none⟩,
       ⟨(some 11), .extr (.t 8) 0, none⟩,
       ⟨(some 12), .extr (.t 8) 1, none⟩,
       ⟨(some 2), .mv (.t 11), none⟩,
       ⟨(some 3), .mv (.t 12), none⟩])
     (.seq
      (.reg none [⟨(some 13), .mv (.t 2), none⟩,
        ⟨(some 14), .mv (.t 3), none⟩,
        ⟨(some 2), .mv (.t 13), none⟩,
        ⟨(some 3), .mv (.t 14), none⟩,
        ⟨(some 4), .mv (.c (.int .i64 0)), none⟩])
      .ret)))) }
theorem f19P : prepF C Try.f19 = some f19A := by kernel_rfl

/-- congou/congoulaw06.table -/
def f20A : AFunc :=
{ nargs := 1, res := [.t 2], body :=
  (.seq
   (.reg none [⟨(some 2), .mv (.c .nils), none⟩])
   (.seq
    (.reg none [⟨(some 3), .mv (.c .nils), none⟩])
    (.seq
     (.seq
      (.reg none [⟨(some 6), .mv (.t 0), none⟩,
        ⟨(some 7), .len (.t 6), none⟩,
        ⟨(some 8), .mv (.c (.int .i64 0)), none⟩])
      (.block 0
       (.loop
        (.seq
         (.reg none [⟨(some 9), .bin .lss (.t 8) (.t 7), none⟩])
         (.seq
          (.cond (.t 9)
           .skip
           (.exit 0))
          (.seq
           (.block 1
            (.seq
             (.reg none [⟨(some 10), .mv (.t 8), none⟩,
               ⟨(some 11), .iaddr 1 (.t 6) (.t 8), none⟩,
               ⟨(some 12), .load none (.t 11), none⟩,
               ⟨(some 4), .mv (.t 10), none⟩,
               ⟨(some 5), .mv (.t 12), none⟩])
             (.seq
              (.reg none [⟨(some 13), .mv (.t 4), none⟩,
                ⟨(some 14), .bin .lss (.t 13) (.c (.int .i64 6)), none⟩])
              (.cond (.t 14)
               (.reg none [⟨(some 15), .mv (.t 3), none⟩,
                 ⟨(some 16), .mv (.t 5), none⟩,
                 ⟨(some 17), .call 39 [(.t 16)], none⟩,
                 ⟨(some 18), .bslice [.nils] 1 1 [(0, (.t 17))], none⟩,
                 ⟨(some 19), .append 1 24 (.t 15) (.t 18), none⟩,
                 ⟨(some 3), .mv (.t 19), none⟩])
               .skip))))
           (.reg none [⟨(some 20), .bin .add (.t 8) (.c (.int .i64 1)), none⟩,
             ⟨(some 8), .mv (.t 20), none⟩])))))))
     (.seq
      (.reg none [⟨(some 21), .mv (.t 3), none⟩,
        ⟨(some 2), .mv (.t 21), none⟩])
      .ret)))) }
theorem f20P : prepF C Try.f20 = some f20A := by kernel_rfl

/-- congou/congouref06.Table -/
def f22A : AFunc :=
{ nargs := 1, res := [.t 2], body :=
  (.seq
   (.reg none [⟨(some 2), .mv (.c (.b false)), none⟩])
   (.seq
    (.reg none [⟨(some 3), .mv (.c (.int .i64 0)), none⟩])
    (.seq
     (.seq
      (.reg none [⟨(some 8), .mv (.t 0), none⟩,
        ⟨(some 9), .len (.t 8), none⟩,
        ⟨(some 10), .mv (.c (.int .i64 0)), none⟩])
      (.block 0
       (.loop
        (.seq
         (.reg none [⟨(some 11), .bin .lss (.t 10) (.t 9), none⟩])
         (.seq
          (.cond (.t 11)
           .skip
           (.exit 0))
          (.seq
           (.block 1
            (.seq
             (.reg none [⟨(some 12), .iaddr 1 (.t 8) (.t 10), none⟩,
               ⟨(some 13), .load none (.t 12), none⟩,
               ⟨(some 5), .mv (.t 13), none⟩])
             (.seq
              (.seq
               (.reg none [⟨(some 14), .mv (.t 5), none⟩,
                 ⟨(some 15), .len (.t 14), none⟩,
                 ⟨(some 16), .mv (.t 0), none⟩,
                 ⟨(some 17), .iaddr 1 (.t 16) (.c (.int .i64 0)), none⟩,
                 ⟨(some 18), .load none (.t 17), none⟩,
                 ⟨(some 19), .len (.t 18), none⟩,
                 ⟨(some 20), .bin .neq (.t 15) (.t 19), none⟩,
                 ⟨(some 21), .mv (.t 20), none⟩,
                 ⟨(some 22), .mv (.t 5), some (21, false)⟩,
                 ⟨(some 23), .len (.t 22), some (21, false)⟩,
                 ⟨(some 24), .bin .lss (.t 23) (.c (.int .i64 1)), some (21, false)⟩,
                 ⟨(some 25), .pick (.t 21) (.c (.b true)) (.t 24), none⟩,
                 ⟨(some 26), .mv (.t 25), none⟩,
                 ⟨(some 27), .mv (.t 5), some (26, false)⟩,
                 ⟨(some 28), .len (.t 27), some (26, false)⟩,
                 ⟨(some 29), .bin .gtr (.t 28) (.c (.int .i64 3)), some (26, false)⟩,
                 ⟨(some 30), .pick (.t 26) (.c (.b true)) (.t 29), none⟩])
               (.cond (.t 30)
                (.seq
                 (.reg none [⟨(some 2), .mv (.c (.b false)), none⟩])
                 .ret)
                .skip))
              (.seq
               (.reg none [⟨(some 31), .mv (.t 5), none⟩,
                 ⟨(some 32), .len (.t 31), none⟩,
                 ⟨(some 33), .mv (.c (.int .i64 0)), none⟩])
               (.block 2
                (.loop
                 (.seq
                  (.reg none [⟨(some 34), .bin .lss (.t 33) (.t 32), none⟩])
                  (.seq
                   (.cond (.t 34)
                    .skip
                    (.exit 2))
                   (.seq
                    (.block 3
                     (.seq
                      (.reg none [⟨(some 35), .iaddr 1 (.t 31) (.t 33), none⟩,
                        ⟨(some 36), .load none (.t 35), none⟩,
                        ⟨(some 7), .mv (.t 36), none⟩])
                      (.seq
                       (.seq
                        (.reg none [⟨(some 37), .mv (.t 7), none⟩,
                          ⟨(some 38), .bin .lss (.t 37) (.c (.int .i64 0)), none⟩,
                          ⟨(some 39), .mv (.t 38), none⟩,
                          ⟨(some 40), .mv (.t 7), some (39, false)⟩,
                          ⟨(some 41), .bin .gtr (.t 40) (.c (.int .i64 16)), some (39, false)⟩,
                          ⟨(some 42), .pick (.t 39) (.c (.b true)) (.t 41), none⟩])
                        (.cond (.t 42)
                         (.seq
                          (.reg none [⟨(some 2), .mv (.c (.b false)), none⟩])
                          .ret)
                         .skip))
                       (.reg none [⟨(some 43), .mv (.t 3), none⟩,
                         ⟨(some 44), .mv (.t 7), none⟩,
                         ⟨(some 45), .bin .add (.t 43) (.t 44), none⟩,
                         ⟨(some 3), .mv (.t 45), none⟩]))))
                    (.reg none [⟨(some 46), .bin .add (.t 33) (.c (.int .i64 1)), none⟩,
                      ⟨(some 33), .mv (.t 46), none⟩]))))))))))
           (.reg none [⟨(some 47), .bin .add (.t 10) (.c (.int .i64 1)), none⟩,
             ⟨(some 10), .mv (.t 47), none⟩])))))))
     (.seq
      (.reg none [⟨(some 48), .mv (.t 0), none⟩,
        ⟨(some 49), .len (.t 48), none⟩,
        ⟨(some 50), .bin .geq (.t 49) (.c (.int .i64 1)), none⟩,
        ⟨(some 51), .mv (.t 50), none⟩,
        ⟨(some 52), .mv (.t 0), some (51, true)⟩,
        ⟨(some 53), .len (.t 52), some (51, true)⟩,
        ⟨(some 54), .bin .leq (.t 53) (.c (.int .i64 3)), some (51, true)⟩,
        ⟨(some 55), .pick (.t 51) (.t 54) (.c (.b false)), none⟩,
        ⟨(some 56), .mv (.t 55), none⟩,
        ⟨(some 57), .mv (.t 3), some (56, true)⟩,
        ⟨(some 58), .bin .leq (.t 57) (.c (.int .i64 16)), some (56, true)⟩,
        ⟨(some 59), .pick (.t 56) (.t 58) (.c (.b false)), none⟩,
        ⟨(some 2), .mv (.t 59), none⟩])
      .ret)))) }
theorem f22P : prepF C Try.f22 = some f22A := by kernel_rfl

/-- congou/congoulaw06.awake -/
def f23A : AFunc :=
{ nargs := 0, res := [.t 0], body :=
  (.seq
   (.reg none [⟨(some 0), .mv (.c (.b false)), none⟩])
   (.seq
    (.reg none [⟨(some 5), .bslice [(.int .i64 0)] 2 1 [(0, (.c (.int .i64 1))), (1, (.c (.int .i64 2)))], none⟩,
      ⟨(some 6), .bslice [(.int .i64 0)] 2 1 [(0, (.c (.int .i64 3))), (1, (.c (.int .i64 4)))], none⟩,
      ⟨(some 7), .bslice [.nils] 2 1 [(0, (.t 5)), (1, (.t 6))], none⟩,
      ⟨(some 8), .call 19 [(.t 7)], none⟩,
      ⟨(some 4), .mv (.t 8), none⟩,
      ⟨(some 9), .extr (.t 4) 0, none⟩,
      ⟨(some 10), .extr (.t 4) 1, none⟩,
      ⟨(some 11), .extr (.t 4) 2, none⟩,
      ⟨(some 1), .mv (.t 9), none⟩,
      ⟨(some 2), .mv (.t 10), none⟩,
      ⟨(some 3), .mv (.t 11), none⟩])
    (.seq
     (.reg none [⟨(some 12), .mv (.t 3), none⟩,
       ⟨(some 13), .bin .eql (.t 12) (.c (.int .i64 0)), none⟩,
       ⟨(some 14), .mv (.t 13), none⟩,
       ⟨(some 15), .mv (.t 1), some (14, true)⟩,
       ⟨(some 16), .bslice [(.int .i64 0)] 2 1 [(0, (.c (.int .i64 3))), (1, (.c (.int .i64 7)))], some (14, true)⟩,
       ⟨(some 17), .call 25 [(.t 15), (.t 16)], some (14, true)⟩,
       ⟨(some 18), .pick (.t 14) (.t 17) (.c (.b false)), none⟩,
       ⟨(some 19), .mv (.t 18), none⟩,
       ⟨(some 20), .mv (.t 2), some (19, true)⟩,
       ⟨(some 21), .bslice [(.int .i64 0)] 2 1 [(0, (.c (.int .i64 4))), (1, (.c (.int .i64 6)))], some (19, true)⟩,
       ⟨(some 22), .call 25 [(.t 20), (.t 21)], some (19, true)⟩,
       ⟨(some 23), .pick (.t 19) (.t 22) (.c (.b false)), none⟩,
       ⟨(some 0), .mv (.t 23), none⟩])
     .ret))) }
theorem f23P : prepF C Try.f23 = some f23A := by kernel_rfl

/-- congou/congouref06.Sums -/
def f24A : AFunc :=
{ nargs := 1, res := [.t 2, .t 3], body :=
  (.seq
   (.reg none [⟨(some 2), .mv (.c .nils), none⟩,
     ⟨(some 3), .mv (.c .nils), none⟩])
   (.seq
    (.reg (some []) [⟨(some 10), .mv (.t 0), none⟩,
      ⟨(some 11), .len (.t 10), none⟩,
      ⟨(some 12), .mkslice 1 8 [(.int .i64 0)] (.t 11), none⟩,
      ⟨(some 13), .mv (.t 0), none⟩,
      ⟨(some 14), .iaddr 1 (.t 13) (.c (.int .i64 0)), none⟩,
      ⟨(some 15), .load none (.t 14), none⟩,
      ⟨(some 16), .len (.t 15), none⟩,
      ⟨(some 17), .mkslice 1 8 [(.int .i64 0)] (.t 16), none⟩,
      ⟨(some 4), .mv (.t 12), none⟩,
      ⟨(some 5), .mv (.t 17), none⟩])
    (.seq
     (.seq
      (.reg none [⟨(some 18), .mv (.t 0), none⟩,
        ⟨(some 19), .len (.t 18), none⟩,
        ⟨(some 20), .mv (.c (.int .i64 0)), none⟩])
      (.block 0
       (.loop
        (.seq
         (.reg none [⟨(some 21), .bin .lss (.t 20) (.t 19), none⟩])
         (.seq
          (.cond (.t 21)
           .skip
           (.exit 0))
          (.seq
           (.block 1
            (.seq
             (.reg none [⟨(some 22), .mv (.t 20), none⟩,
               ⟨(some 23), .iaddr 1 (.t 18) (.t 20), none⟩,
               ⟨(some 24), .load none (.t 23), none⟩,
               ⟨(some 6), .mv (.t 22), none⟩,
               ⟨(some 7), .mv (.t 24), none⟩])
             (.seq
              (.reg none [⟨(some 25), .mv (.t 7), none⟩,
                ⟨(some 26), .len (.t 25), none⟩,
                ⟨(some 27), .mv (.c (.int .i64 0)), none⟩])
              (.block 2
               (.loop
                (.seq
                 (.reg none [⟨(some 28), .bin .lss (.t 27) (.t 26), none⟩])
                 (.seq
                  (.cond (.t 28)
                   .skip
                   (.exit 2))
                  (.seq
                   (.block 3
                    (.seq
                     (.reg none [⟨(some 29), .mv (.t 27), none⟩,
                       ⟨(some 30), .iaddr 1 (.t 25) (.t 27), none⟩,
                       ⟨(some 31), .load none (.t 30), none⟩,
                       ⟨(some 8), .mv (.t 29), none⟩,
                       ⟨(some 9), .mv (.t 31), none⟩])
                     (.seq
                      (.reg none [⟨(some 32), .mv (.t 4), none⟩,
                        ⟨(some 33), .mv (.t 6), none⟩,
                        ⟨(some 34), .iaddr 1 (.t 32) (.t 33), none⟩,
                        ⟨(some 35), .load none (.t 34), none⟩,
                        ⟨(some 36), .mv (.t 9), none⟩,
                        ⟨(some 37), .bin .add (.t 35) (.t 36), none⟩,
                        ⟨(some 38), .iaddr 1 (.t 32) (.t 33), none⟩,
                        ⟨none, .store 1 (.t 38) (.t 37), none⟩])
                      (.reg none [⟨(some 39), .mv (.t 5), none⟩,
                        ⟨(some 40), .mv (.t 8), none⟩,
                        ⟨(some 41), .iaddr 1 (.t 39) (.t 40), none⟩,
                        ⟨(some 42), .load none (.t 41), none⟩,
                        ⟨(some 43), .mv (.t 9), none⟩,
                        ⟨(some 44), .bin .add (.t 42) (.t 43), none⟩,
                        ⟨(some 45), .iaddr 1 (.t 39) (.t 40), none⟩,
                        ⟨none, .store 1 (.t 45) (.t 44), none⟩]))))
                   (.reg none [⟨(some 46), .bin .add (.t 27) (.c (.int .i64 1)), none⟩,
                     ⟨(some 27), .mv (.t 46), none⟩])))))))))
           (.reg none [⟨(some 47), .bin .add (.t 20) (.c (.int .i64 1)), none⟩,
             ⟨(some 20), .mv (.t 47), none⟩])))))))
     (.seq
      (.reg none [⟨(some 48), .mv (.t 4), none⟩,
        ⟨(some 49), .mv (.t 5), none⟩,
        ⟨(some 2), .mv (.t 48), none⟩,
        ⟨(some 3), .mv (.t 49), none⟩])
      .ret)))) }
theorem f24P : prepF C Try.f24 = some f24A := by kernel_rfl

/-- slices.Equal[[]int,int] -/
def f25A : AFunc :=
{ nargs := 2, res := [.t 4], body :=
  (.seq
   (.reg none [⟨(some 4), .mv (.c (.b false)), none⟩])
   (.seq
    (.seq
     (.reg none [⟨(some 6), .mv (.t 0), none⟩,
       ⟨(some 7), .len (.t 6), none⟩,
       ⟨(some 8), .mv (.t 1), none⟩,
       ⟨(some 9), .len (.t 8), none⟩,
       ⟨(some 10), .bin .neq (.t 7) (.t 9), none⟩])
     (.cond (.t 10)
      (.seq
       (.reg none [⟨(some 4), .mv (.c (.b false)), none⟩])
       .ret)
      .skip))
    (.seq
     (.seq
      (.reg none [⟨(some 11), .mv (.t 0), none⟩,
        ⟨(some 12), .len (.t 11), none⟩,
        ⟨(some 13), .mv (.c (.int .i64 0)), none⟩])
      (.block 0
       (.loop
        (.seq
         (.reg none [⟨(some 14), .bin .lss (.t 13) (.t 12), none⟩])
         (.seq
          (.cond (.t 14)
           .skip
           (.exit 0))
          (.seq
           (.block 1
            (.seq
             (.reg none [⟨(some 15), .mv (.t 13), none⟩,
               ⟨(some 5), .mv (.t 15), none⟩])
             (.seq
              (.reg (some []) [⟨(some 16), .mv (.t 0), none⟩,
                ⟨(some 17), .mv (.t 5), none⟩,
                ⟨(some 18), .iaddr 1 (.t 16) (.t 17), none⟩,
                ⟨(some 19), .load none (.t 18), none⟩,
                ⟨(some 20), .mv (.t 1), none⟩,
                ⟨(some 21), .mv (.t 5), none⟩,
                ⟨(some 22), .iaddr 1 (.t 20) (.t 21), none⟩,
                ⟨(some 23), .load none (.t 22), none⟩,
                ⟨(some 24), .bin .neq (.t 19) (.t 23), none⟩])
              (.cond (.t 24)
               (.seq
                (.reg none [⟨(some 4), .mv (.c (.b false)), none⟩])
                .ret)
               .skip))))
           (.reg none [⟨(some 25), .bin .add (.t 13) (.c (.int .i64 1)), none⟩,
             ⟨(some 13), .mv (.t 25), none⟩])))))))
     (.seq
      (.reg none [⟨(some 4), .mv (.c (.b true)), none⟩])
      .ret)))) }
theorem f25P : prepF C Try.f25 = some f25A := by kernel_rfl

/-- congou/congouref06.Same -/
def f26A : AFunc :=
{ nargs := 2, res := [.t 4], body :=
  (.seq
   (.reg none [⟨(some 4), .mv (.c (.b false)), none⟩])
   (.seq
    (.seq
     (.reg none [⟨(some 9), .mv (.t 0), none⟩,
       ⟨(some 10), .len (.t 9), none⟩,
       ⟨(some 11), .mv (.t 1), none⟩,
       ⟨(some 12), .len (.t 11), none⟩,
       ⟨(some 13), .bin .neq (.t 10) (.t 12), none⟩])
     (.cond (.t 13)
      (.seq
       (.reg none [⟨(some 4), .mv (.c (.b false)), none⟩])
       .ret)
      .skip))
    (.seq
     (.seq
      (.reg none [⟨(some 14), .mv (.t 0), none⟩,
        ⟨(some 15), .len (.t 14), none⟩,
        ⟨(some 16), .mv (.c (.int .i64 0)), none⟩])
      (.block 0
       (.loop
        (.seq
         (.reg none [⟨(some 17), .bin .lss (.t 16) (.t 15), none⟩])
         (.seq
          (.cond (.t 17)
           .skip
           (.exit 0))
          (.seq
           (.block 1
            (.seq
             (.reg none [⟨(some 18), .mv (.t 16), none⟩,
               ⟨(some 19), .iaddr 1 (.t 14) (.t 16), none⟩,
               ⟨(some 20), .load none (.t 19), none⟩,
               ⟨(some 5), .mv (.t 18), none⟩,
               ⟨(some 6), .mv (.t 20), none⟩])
             (.seq
              (.seq
               (.reg none [⟨(some 21), .mv (.t 6), none⟩,
                 ⟨(some 22), .len (.t 21), none⟩,
                 ⟨(some 23), .mv (.t 1), none⟩,
                 ⟨(some 24), .mv (.t 5), none⟩,
                 ⟨(some 25), .iaddr 1 (.t 23) (.t 24), none⟩,
                 ⟨(some 26), .load none (.t 25), none⟩,
                 ⟨(some 27), .len (.t 26), none⟩,
                 ⟨(some 28), .bin .neq (.t 22) (.t 27), none⟩])
               (.cond (.t 28)
                (.seq
                 (.reg none [⟨(some 4), .mv (.c (.b false)), none⟩])
                 .ret)
                .skip))
              (.seq
               (.reg none [⟨(some 29), .mv (.t 6), none⟩,
                 ⟨(some 30), .len (.t 29), none⟩,
                 ⟨(some 31), .mv (.c (.int .i64 0)), none⟩])
               (.block 2
                (.loop
                 (.seq
                  (.reg none [⟨(some 32), .bin .lss (.t 31) (.t 30), none⟩])
                  (.seq
                   (.cond (.t 32)
                    .skip
                    (.exit 2))
                   (.seq
                    (.block 3
                     (.seq
                      (.reg none [⟨(some 33), .mv (.t 31), none⟩,
                        ⟨(some 34), .iaddr 1 (.t 29) (.t 31), none⟩,
                        ⟨(some 35), .load none (.t 34), none⟩,
                        ⟨(some 7), .mv (.t 33), none⟩,
                        ⟨(some 8), .mv (.t 35), none⟩])
                      (.seq
                       (.reg none [⟨(some 36), .mv (.t 8), none⟩,
                         ⟨(some 37), .mv (.t 1), none⟩,
                         ⟨(some 38), .mv (.t 5), none⟩,
                         ⟨(some 39), .iaddr 1 (.t 37) (.t 38), none⟩,
                         ⟨(some 40), .load none (.t 39), none⟩,
                         ⟨(some 41), .mv (.t 7), none⟩,
                         ⟨(some 42), .iaddr 1 (.t 40) (.t 41), none⟩,
                         ⟨(some 43), .load none (.t 42), none⟩,
                         ⟨(some 44), .bin .neq (.t 36) (.t 43), none⟩])
                       (.cond (.t 44)
                        (.seq
                         (.reg none [⟨(some 4), .mv (.c (.b false)), none⟩])
                         .ret)
                        .skip))))
                    (.reg none [⟨(some 45), .bin .add (.t 31) (.c (.int .i64 1)), none⟩,
                      ⟨(some 31), .mv (.t 45), none⟩]))))))))))
           (.reg none [⟨(some 46), .bin .add (.t 16) (.c (.int .i64 1)), none⟩,
             ⟨(some 16), .mv (.t 46), none⟩])))))))
     (.seq
      (.reg none [⟨(some 4), .mv (.c (.b true)), none⟩])
      .ret)))) }
theorem f26P : prepF C Try.f26 = some f26A := by kernel_rfl

/-- congou/congouref06.Places -/
def f33A : AFunc :=
{ nargs := 5, res := [.t 10], body :=
  (.seq
   (.reg none [⟨(some 10), .mv (.c (.b false)), none⟩])
   (.seq
    (.reg none [⟨(some 11), .mv (.t 1), none⟩,
      ⟨(some 12), .bin .geq (.t 11) (.c (.int .i64 0)), none⟩,
      ⟨(some 13), .mv (.t 12), none⟩,
      ⟨(some 14), .mv (.t 1), some (13, true)⟩,
      ⟨(some 15), .mv (.t 0), some (13, true)⟩,
      ⟨(some 16), .len (.t 15), some (13, true)⟩,
      ⟨(some 17), .bin .lss (.t 14) (.t 16), some (13, true)⟩,
      ⟨(some 18), .pick (.t 13) (.t 17) (.c (.b false)), none⟩,
      ⟨(some 19), .mv (.t 18), none⟩,
      ⟨(some 20), .mv (.t 2), some (19, true)⟩,
      ⟨(some 21), .bin .geq (.t 20) (.c (.int .i64 0)), some (19, true)⟩,
      ⟨(some 22), .pick (.t 19) (.t 21) (.c (.b false)), none⟩,
      ⟨(some 23), .mv (.t 22), none⟩,
      ⟨(some 24), .mv (.t 2), some (23, true)⟩,
      ⟨(some 25), .mv (.t 0), some (23, true)⟩,
      ⟨(some 26), .len (.t 25), some (23, true)⟩,
      ⟨(some 27), .bin .lss (.t 24) (.t 26), some (23, true)⟩,
      ⟨(some 28), .pick (.t 23) (.t 27) (.c (.b false)), none⟩,
      ⟨(some 29), .mv (.t 28), none⟩,
      ⟨(some 30), .mv (.t 1), some (29, true)⟩,
      ⟨(some 31), .mv (.t 2), some (29, true)⟩,
      ⟨(some 32), .bin .neq (.t 30) (.t 31), some (29, true)⟩,
      ⟨(some 33), .pick (.t 29) (.t 32) (.c (.b false)), none⟩,
      ⟨(some 34), .mv (.t 33), none⟩,
      ⟨(some 35), .mv (.t 3), some (34, true)⟩,
      ⟨(some 36), .bin .geq (.t 35) (.c (.int .i64 0)), some (34, true)⟩,
      ⟨(some 37), .pick (.t 34) (.t 36) (.c (.b false)), none⟩,
      ⟨(some 38), .mv (.t 37), none⟩,
      ⟨(some 39), .mv (.t 3), some (38, true)⟩,
      ⟨(some 40), .mv (.t 0), some (38, true)⟩,
      ⟨(some 41), .iaddr 1 (.t 40) (.c (.int .i64 0)), some (38, true)⟩,
      ⟨(some 42), .load none (.t 41), some (38, true)⟩,
      ⟨(some 43), .len (.t 42), some (38, true)⟩,
      ⟨(some 44), .bin .lss (.t 39) (.t 43), some (38, true)⟩,
      ⟨(some 45), .pick (.t 38) (.t 44) (.c (.b false)), none⟩,
      ⟨(some 46), .mv (.t 45), none⟩,
      ⟨(some 47), .mv (.t 4), some (46, true)⟩,
      ⟨(some 48), .bin .geq (.t 47) (.c (.int .i64 0)), some (46, true)⟩,
      ⟨(some 49), .pick (.t 46) (.t 48) (.c (.b false)), none⟩,
      ⟨(some 50), .mv (.t 49), none⟩,
      ⟨(some 51), .mv (.t 4), some (50, true)⟩,
      ⟨(some 52), .mv (.t 0), some (50, true)⟩,
      ⟨(some 53), .iaddr 1 (.t 52) (.c (.int .i64 0)), some (50, true)⟩,
      ⟨(some 54), .load none (.t 53), some (50, true)⟩,
      ⟨(some 55), .len (.t 54), some (50, true)⟩,
      ⟨(some 56), .bin .lss (.t 51) (.t 55), some (50, true)⟩,
      ⟨(some 57), .pick (.t 50) (.t 56) (.c (.b false)), none⟩,
      ⟨(some 58), .mv (.t 57), none⟩,
      ⟨(some 59), .mv (.t 3), some (58, true)⟩,
      ⟨(some 60), .mv (.t 4), some (58, true)⟩,
      ⟨(some 61), .bin .neq (.t 59) (.t 60), some (58, true)⟩,
      ⟨(some 62), .pick (.t 58) (.t 61) (.c (.b false)), none⟩,
      ⟨(some 10), .mv (.t 62), none⟩])
    .ret)) }
theorem f33P : prepF C Try.f33 = some f33A := by kernel_rfl

/-- congou/congouref06.Swap -/
def f34A : AFunc :=
{ nargs := 5, res := [.t 10, .t 11], body :=
  (.seq
   (.reg none [⟨(some 10), .mv (.c .nils), none⟩,
     ⟨(some 11), .mv (.c (.int .i64 0)), none⟩])
   (.seq
    (.seq
     (.reg none [⟨(some 15), .mv (.t 0), none⟩,
       ⟨(some 16), .mv (.t 1), none⟩,
       ⟨(some 17), .iaddr 1 (.t 15) (.t 16), none⟩,
       ⟨(some 18), .load none (.t 17), none⟩,
       ⟨(some 19), .mv (.t 4), none⟩,
       ⟨(some 20), .iaddr 1 (.t 18) (.t 19), none⟩,
       ⟨(some 21), .load none (.t 20), none⟩,
       ⟨(some 22), .bin .eql (.t 21) (.c (.int .i64 0)), none⟩,
       ⟨(some 23), .mv (.t 22), none⟩,
       ⟨(some 24), .mv (.t 0), some (23, false)⟩,
       ⟨(some 25), .mv (.t 2), some (23, false)⟩,
       ⟨(some 26), .iaddr 1 (.t 24) (.t 25), some (23, false)⟩,
       ⟨(some 27), .load none (.t 26), some (23, false)⟩,
       ⟨(some 28), .mv (.t 3), some (23, false)⟩,
       ⟨(some 29), .iaddr 1 (.t 27) (.t 28), some (23, false)⟩,
       ⟨(some 30), .load none (.t 29), some (23, false)⟩,
       ⟨(some 31), .bin .eql (.t 30) (.c (.int .i64 0)), some (23, false)⟩,
       ⟨(some 32), .pick (.t 23) (.c (.b true)) (.t 31), none⟩])
     (.cond (.t 32)
      (.seq
       (.reg none [⟨(some 10), .mv (.c .nils), none⟩,
         ⟨(some 11), .mv (.c (.int .i64 4)), none⟩])
       .ret)
      .skip))
    (.seq
     (.reg none [⟨(some 12), .mv (.c .nils), none⟩])
     (.seq
      (.seq
       (.reg none [⟨(some 33), .mv (.t 0), none⟩,
         ⟨(some 34), .len (.t 33), none⟩,
         ⟨(some 35), .mv (.c (.int .i64 0)), none⟩])
       (.block 0
        (.loop
         (.seq
          (.reg none [⟨(some 36), .bin .lss (.t 35) (.t 34), none⟩])
          (.seq
           (.cond (.t 36)
            .skip
            (.exit 0))
           (.seq
            (.block 1
             (.seq
              (.reg none [⟨(some 37), .iaddr 1 (.t 33) (.t 35), none⟩,
                ⟨(some 38), .load none (.t 37), none⟩,
                ⟨(some 14), .mv (.t 38), none⟩])
              (.reg none [⟨(some 39), .mv (.t 12), none⟩,
                ⟨(some 40), .bslice [(.int .i64 0)] 0 1 [], none⟩,
                ⟨(some 41), .mv (.t 14), none⟩,
                ⟨(some 42), .append 1 8 (.t 40) (.t 41), none⟩,
                ⟨(some 43), .bslice [.nils] 1 1 [(0, (.t 42))], none⟩,
                ⟨(some 44), .append 1 24 (.t 39) (.t 43), none⟩,
                ⟨(some 12), .mv (.t 44), none⟩])))
            (.reg none [⟨(some 45), .bin .add (.t 35) (.c (.int .i64 1)), none⟩,
              ⟨(some 35), .mv (.t 45), none⟩])))))))
      (.seq
       (.reg none [⟨(some 46), .mv (.t 12), none⟩,
         ⟨(some 47), .mv (.t 1), none⟩,
         ⟨(some 48), .iaddr 1 (.t 46) (.t 47), none⟩,
         ⟨(some 49), .load none (.t 48), none⟩,
         ⟨(some 50), .mv (.t 3), none⟩,
         ⟨(some 51), .iaddr 1 (.t 49) (.t 50), none⟩,
         ⟨(some 52), .load none (.t 51), none⟩,
         ⟨(some 53), .bin .add (.t 52) (.c (.int .i64 1)), none⟩,
         ⟨(some 54), .iaddr 1 (.t 49) (.t 50), none⟩,
         ⟨none, .store 1 (.t 54) (.t 53), none⟩])
       (.seq
        (.reg none [⟨(some 55), .mv (.t 12), none⟩,
          ⟨(some 56), .mv (.t 2), none⟩,
          ⟨(some 57), .iaddr 1 (.t 55) (.t 56), none⟩,
          ⟨(some 58), .load none (.t 57), none⟩,
          ⟨(some 59), .mv (.t 4), none⟩,
          ⟨(some 60), .iaddr 1 (.t 58) (.t 59), none⟩,
          ⟨(some 61), .load none (.t 60), none⟩,
          ⟨(some 62), .bin .add (.t 61) (.c (.int .i64 1)), none⟩,
          ⟨(some 63), .iaddr 1 (.t 58) (.t 59), none⟩,
          ⟨none, .store 1 (.t 63) (.t 62), none⟩])
        (.seq
         (.reg none [⟨(some 64), .mv (.t 12), none⟩,
           ⟨(some 65), .mv (.t 1), none⟩,
           ⟨(some 66), .iaddr 1 (.t 64) (.t 65), none⟩,
           ⟨(some 67), .load none (.t 66), none⟩,
           ⟨(some 68), .mv (.t 4), none⟩,
           ⟨(some 69), .iaddr 1 (.t 67) (.t 68), none⟩,
           ⟨(some 70), .load none (.t 69), none⟩,
           ⟨(some 71), .bin .sub (.t 70) (.c (.int .i64 1)), none⟩,
           ⟨(some 72), .iaddr 1 (.t 67) (.t 68), none⟩,
           ⟨none, .store 1 (.t 72) (.t 71), none⟩])
         (.seq
          (.reg none [⟨(some 73), .mv (.t 12), none⟩,
            ⟨(some 74), .mv (.t 2), none⟩,
            ⟨(some 75), .iaddr 1 (.t 73) (.t 74), none⟩,
            ⟨(some 76), .load none (.t 75), none⟩,
            ⟨(some 77), .mv (.t 3), none⟩,
            ⟨(some 78), .iaddr 1 (.t 76) (.t 77), none⟩,
            ⟨(some 79), .load none (.t 78), none⟩,
            ⟨(some 80), .bin .sub (.t 79) (.c (.int .i64 1)), none⟩,
            ⟨(some 81), .iaddr 1 (.t 76) (.t 77), none⟩,
            ⟨none, .store 1 (.t 81) (.t 80), none⟩])
          (.seq
           (.reg none [⟨(some 82), .mv (.t 12), none⟩,
             ⟨(some 10), .mv (.t 82), none⟩,
             ⟨(some 11), .mv (.c (.int .i64 0)), none⟩])
           .ret))))))))) }
theorem f34P : prepF C Try.f34 = some f34A := by kernel_rfl

/-- congou/congoulaw06.list -/
def f39A : AFunc :=
{ nargs := 1, res := [.t 2], body :=
  (.seq
   (.reg none [⟨(some 2), .mv (.c .nils), none⟩])
   (.seq
    (.reg none [⟨(some 3), .mv (.t 0), none⟩,
      ⟨(some 4), .mv (.t 0), none⟩,
      ⟨(some 5), .len (.t 4), none⟩,
      ⟨(some 6), .mn [(.t 5), (.c (.int .i64 6))], none⟩,
      ⟨(some 7), .slice 1 (.t 3) none (some (.t 6)) none, none⟩,
      ⟨(some 8), .call 56 [(.t 7)], none⟩,
      ⟨(some 2), .mv (.t 8), none⟩])
    .ret)) }
theorem f39P : prepF C Try.f39 = some f39A := by kernel_rfl

/-- congou/congouref06.Tables -/
def f41A : AFunc :=
{ nargs := 2, res := [.t 4], body :=
  (.seq
   (.reg none [⟨(some 4), .mv (.c .nils), none⟩])
   (.seq
    (.seq
     (.reg none [⟨(some 13), .mv (.t 0), none⟩,
       ⟨(some 14), .len (.t 13), none⟩,
       ⟨(some 15), .bin .eql (.t 14) (.c (.int .i64 0)), none⟩])
     (.cond (.t 15)
      (.seq
       (.seq
        (.reg none [⟨(some 16), .mv (.t 1), none⟩,
          ⟨(some 17), .call 77 [(.t 16)], none⟩,
          ⟨(some 18), .bin .eql (.t 17) (.c (.int .i64 0)), none⟩])
        (.cond (.t 18)
         (.seq
          (.reg none [⟨(some 19), .bslice [.nils] 1 1 [(0, (.c .nils))], none⟩,
            ⟨(some 4), .mv (.t 19), none⟩])
          .ret)
         .skip))
       (.seq
        (.reg none [⟨(some 4), .mv (.c .nils), none⟩])
        .ret))
      .skip))
    (.seq
     (.reg none [⟨(some 5), .mv (.c .nils), none⟩])
     (.seq
      (.seq
       (.reg none [⟨(some 20), .mv (.t 0), none⟩,
         ⟨(some 21), .iaddr 1 (.t 20) (.c (.int .i64 0)), none⟩,
         ⟨(some 22), .load none (.t 21), none⟩,
         ⟨(some 23), .mv (.t 1), none⟩,
         ⟨(some 24), .call 81 [(.t 22), (.t 23)], none⟩,
         ⟨(some 25), .len (.t 24), none⟩,
         ⟨(some 26), .mv (.c (.int .i64 0)), none⟩])
       (.block 0
        (.loop
         (.seq
          (.reg none [⟨(some 27), .bin .lss (.t 26) (.t 25), none⟩])
          (.seq
           (.cond (.t 27)
            .skip
            (.exit 0))
           (.seq
            (.block 1
             (.seq
              (.reg none [⟨(some 28), .iaddr 1 (.t 24) (.t 26), none⟩,
                ⟨(some 29), .load none (.t 28), none⟩,
                ⟨(some 7), .mv (.t 29), none⟩])
              (.seq
               (.reg none [⟨(some 30), .bslice [(.int .i64 0)] 0 1 [], none⟩,
                 ⟨(some 31), .mv (.t 1), none⟩,
                 ⟨(some 32), .append 1 8 (.t 30) (.t 31), none⟩,
                 ⟨(some 8), .mv (.t 32), none⟩])
               (.seq
                (.seq
                 (.reg none [⟨(some 33), .mv (.t 7), none⟩,
                   ⟨(some 34), .len (.t 33), none⟩,
                   ⟨(some 35), .mv (.c (.int .i64 0)), none⟩])
                 (.block 2
                  (.loop
                   (.seq
                    (.reg none [⟨(some 36), .bin .lss (.t 35) (.t 34), none⟩])
                    (.seq
                     (.cond (.t 36)
                      .skip
                      (.exit 2))
                     (.seq
                      (.block 3
                       (.seq
                        (.reg none [⟨(some 37), .mv (.t 35), none⟩,
                          ⟨(some 38), .iaddr 1 (.t 33) (.t 35), none⟩,
                          ⟨(some 39), .load none (.t 38), none⟩,
                          ⟨(some 9), .mv (.t 37), none⟩,
                          ⟨(some 10), .mv (.t 39), none⟩])
                        (.reg none [⟨(some 40), .mv (.t 8), none⟩,
                          ⟨(some 41), .mv (.t 9), none⟩,
                          ⟨(some 42), .iaddr 1 (.t 40) (.t 41), none⟩,
                          ⟨(some 43), .load none (.t 42), none⟩,
                          ⟨(some 44), .mv (.t 10), none⟩,
                          ⟨(some 45), .bin .sub (.t 43) (.t 44), none⟩,
                          ⟨(some 46), .iaddr 1 (.t 40) (.t 41), none⟩,
                          ⟨none, .store 1 (.t 46) (.t 45), none⟩])))
                      (.reg none [⟨(some 47), .bin .add (.t 35) (.c (.int .i64 1)), none⟩,
                        ⟨(some 35), .mv (.t 47), none⟩])))))))
                (.seq
                 (.reg none [⟨(some 48), .mv (.t 0), none⟩,
                   ⟨(some 49), .slice 1 (.t 48) (some (.c (.int .i64 1))) none none, none⟩,
                   ⟨(some 50), .mv (.t 8), none⟩,
                   ⟨(some 51), .call 41 [(.t 49), (.t 50)], none⟩,
                   ⟨(some 52), .len (.t 51), none⟩,
                   ⟨(some 53), .mv (.c (.int .i64 0)), none⟩])
                 (.block 4
                  (.loop
                   (.seq
                    (.reg none [⟨(some 54), .bin .lss (.t 53) (.t 52), none⟩])
                    (.seq
                     (.cond (.t 54)
                      .skip
                      (.exit 4))
                     (.seq
                      (.block 5
                       (.seq
                        (.reg none [⟨(some 55), .iaddr 1 (.t 51) (.t 53), none⟩,
                          ⟨(some 56), .load none (.t 55), none⟩,
                          ⟨(some 12), .mv (.t 56), none⟩])
                        (.reg none [⟨(some 57), .mv (.t 5), none⟩,
                          ⟨(some 58), .mv (.t 7), none⟩,
                          ⟨(some 59), .bslice [.nils] 1 1 [(0, (.t 58))], none⟩,
                          ⟨(some 60), .mv (.t 12), none⟩,
                          ⟨(some 61), .append 1 24 (.t 59) (.t 60), none⟩,
                          ⟨(some 62), .bslice [.nils] 1 1 [(0, (.t 61))], none⟩,
                          ⟨(some 63), .append 1 24 (.t 57) (.t 62), none⟩,
                          ⟨(some 5), .mv (.t 63), none⟩])))
                      (.reg none [⟨(some 64), .bin .add (.t 53) (.c (.int .i64 1)), none⟩,
                        ⟨(some 53), .mv (.t 64), none⟩])))))))))))
            (.reg none [⟨(some 65), .bin .add (.t 26) (.c (.int .i64 1)), none⟩,
              ⟨(some 26), .mv (.t 65), none⟩])))))))
      (.seq
       (.reg none [⟨(some 66), .mv (.t 5), none⟩,
         ⟨(some 4), .mv (.t 66), none⟩])
       .ret))))) }
theorem f41P : prepF C Try.f41 = some f41A := by kernel_rfl

/-- congou/congouref06.Family -/
def f44A : AFunc :=
{ nargs := 1, res := [.t 2], body :=
  (.seq
   (.reg none [⟨(some 2), .mv (.c .nils), none⟩])
   (.seq
    (.reg none [⟨(some 3), .mv (.t 0), none⟩,
      ⟨(some 4), .call 24 [(.t 3)], none⟩,
      ⟨(some 5), .extr (.t 4) 0, none⟩,
      ⟨(some 6), .extr (.t 4) 1, none⟩,
      ⟨(some 7), .call 41 [(.t 5), (.t 6)], none⟩,
      ⟨(some 2), .mv (.t 7), none⟩])
    .ret)) }
theorem f44P : prepF C Try.f44 = some f44A := by kernel_rfl

/-- slices.Clone[[]int,int] -/
def f56A : AFunc :=
{ nargs := 1, res := [.t 2], body :=
  (.seq
   (.reg none [⟨(some 2), .mv (.c .nils), none⟩])
   (.seq
    (.seq
     (.reg none [⟨(some 3), .mv (.t 0), none⟩,
       ⟨(some 4), .seq false (.t 3) (.c .nils), none⟩])
     (.cond (.t 4)
      (.seq
       (.reg none [⟨(some 2), .mv (.c .nils), none⟩])
       .ret)
      .skip))
    (.seq
     (.reg none [⟨(some 5), .bslice [(.int .i64 0)] 0 1 [], none⟩,
       ⟨(some 6), .mv (.t 0), none⟩,
       ⟨(some 7), .append 1 8 (.t 5) (.t 6), none⟩,
       ⟨(some 2), .mv (.t 7), none⟩])
     .ret))) }
theorem f56P : prepF C Try.f56 = some f56A := by kernel_rfl

/-- slices.CompareFunc[[][]int,[][]int,[]int,[]int] -/
def f57A : AFunc :=
{ nargs := 3, res := [.t 6], body :=
  (.seq
   (.reg none [⟨(some 6), .mv (.c (.int .i64 0)), none⟩])
   (.seq
    (.seq
     (.reg none [⟨(some 11), .mv (.t 0), none⟩,
       ⟨(some 12), .len (.t 11), none⟩,
       ⟨(some 13), .mv (.c (.int .i64 0)), none⟩])
     (.block 0
      (.loop
       (.seq
        (.reg none [⟨(some 14), .bin .lss (.t 13) (.t 12), none⟩])
        (.seq
         (.cond (.t 14)
          .skip
          (.exit 0))
         (.seq
          (.block 1
           (.seq
            (.reg none [⟨(some 15), .mv (.t 13), none⟩,
              ⟨(some 16), .iaddr 1 (.t 11) (.t 13), none⟩,
              ⟨(some 17), .load none (.t 16), none⟩,
              ⟨(some 7), .mv (.t 15), none⟩,
              ⟨(some 8), .mv (.t 17), none⟩])
            (.seq
             (.seq
              (.reg none [⟨(some 18), .mv (.t 7), none⟩,
                ⟨(some 19), .mv (.t 1), none⟩,
                ⟨(some 20), .len (.t 19), none⟩,
                ⟨(some 21), .bin .geq (.t 18) (.t 20), none⟩])
              (.cond (.t 21)
               (.seq
                (.reg none [⟨(some 6), .mv (.c (.int .i64 1)), none⟩])
                .ret)
               .skip))
             (.seq
              (.reg none [⟨(some 22), .mv (.t 1), none⟩,
                ⟨(some 23), .mv (.t 7), none⟩,
                ⟨(some 24), .iaddr 1 (.t 22) (.t 23), none⟩,
                ⟨(some 25), .load none (.t 24), none⟩,
                ⟨(some 9), .mv (.t 25), none⟩])
              (.seq
               (.reg none [⟨(some 26), .mv (.t 2), none⟩,
                 ⟨(some 27), .mv (.t 8), none⟩,
                 ⟨(some 28), .mv (.t 9), none⟩,
                 ⟨(some 29), .callv (.t 26) [(.t 27), (.t 28)], none⟩,
                 ⟨(some 10), .mv (.t 29), none⟩])
               (.seq
                (.reg none [⟨(some 30), .mv (.t 10), none⟩,
                  ⟨(some 31), .bin .neq (.t 30) (.c (.int .i64 0)), none⟩])
                (.cond (.t 31)
                 (.seq
                  (.reg none [⟨(some 32), .mv (.t 10), none⟩,
                    ⟨(some 6), .mv (.t 32), none⟩])
                  .ret)
                 .skip)))))))
          (.reg none [⟨(some 33), .bin .add (.t 13) (.c (.int .i64 1)), none⟩,
            ⟨(some 13), .mv (.t 33), none⟩])))))))
    (.seq
     (.seq
      (.reg none [⟨(some 34), .mv (.t 0), none⟩,
        ⟨(some 35), .len (.t 34), none⟩,
        ⟨(some 36), .mv (.t 1), none⟩,
        ⟨(some 37), .len (.t 36), none⟩,
        ⟨(some 38), .bin .lss (.t 35) (.t 37), none⟩])
      (.cond (.t 38)
       (.seq
        (.reg none [⟨(some 6), .mv (.c (.int .i64 (-1))), none⟩])
        .ret)
       .skip))
     (.seq
      (.reg none [⟨(some 6), .mv (.c (.int .i64 0)), none⟩])
      .ret)))) }
theorem f57P : prepF C Try.f57 = some f57A := by kernel_rfl

/-- slices.Compare[[]int,int] -/
def f59A : AFunc :=
{ nargs := 2, res := [.t 4], body :=
  (.seq
   (.reg none [⟨(some 4), .mv (.c (.int .i64 0)), none⟩])
   (.seq
    (.seq
     (.reg none [⟨(some 9), .mv (.t 0), none⟩,
       ⟨(some 10), .len (.t 9), none⟩,
       ⟨(some 11), .mv (.c (.int .i64 0)), none⟩])
     (.block 0
      (.loop
       (.seq
        (.reg none [⟨(some 12), .bin .lss (.t 11) (.t 10), none⟩])
        (.seq
         (.cond (.t 12)
          .skip
          (.exit 0))
         (.seq
          (.block 1
           (.seq
            (.reg none [⟨(some 13), .mv (.t 11), none⟩,
              ⟨(some 14), .iaddr 1 (.t 9) (.t 11), none⟩,
              ⟨(some 15), .load none (.t 14), none⟩,
              ⟨(some 5), .mv (.t 13), none⟩,
              ⟨(some 6), .mv (.t 15), none⟩])
            (.seq
             (.seq
              (.reg none [⟨(some 16), .mv (.t 5), none⟩,
                ⟨(some 17), .mv (.t 1), none⟩,
                ⟨(some 18), .len (.t 17), none⟩,
                ⟨(some 19), .bin .geq (.t 16) (.t 18), none⟩])
              (.cond (.t 19)
               (.seq
                (.reg none [⟨(some 4), .mv (.c (.int .i64 1)), none⟩])
                .ret)
               .skip))
             (.seq
              (.reg none [⟨(some 20), .mv (.t 1), none⟩,
                ⟨(some 21), .mv (.t 5), none⟩,
                ⟨(some 22), .iaddr 1 (.t 20) (.t 21), none⟩,
                ⟨(some 23), .load none (.t 22), none⟩,
                ⟨(some 7), .mv (.t 23), none⟩])
              (.seq
               (.reg none [⟨(some 24), .mv (.t 6), none⟩,
                 ⟨(some 25), .mv (.t 7), none⟩,
                 ⟨(some 26), .call 85 [(.t 24), (.t 25)], none⟩,
                 ⟨(some 8), .mv (.t 26), none⟩])
               (.seq
                (.reg none [⟨(some 27), .mv (.t 8), none⟩,
                  ⟨(some 28), .bin .neq (.t 27) (.c (.int .i64 0)), none⟩])
                (.cond (.t 28)
                 (.seq
                  (.reg none [⟨(some 29), .mv (.t 8), none⟩,
                    ⟨(some 4), .mv (.t 29), none⟩])
                  .ret)
                 .skip)))))))
          (.reg none [⟨(some 30), .bin .add (.t 11) (.c (.int .i64 1)), none⟩,
            ⟨(some 11), .mv (.t 30), none⟩])))))))
    (.seq
     (.seq
      (.reg none [⟨(some 31), .mv (.t 0), none⟩,
        ⟨(some 32), .len (.t 31), none⟩,
        ⟨(some 33), .mv (.t 1), none⟩,
        ⟨(some 34), .len (.t 33), none⟩,
        ⟨(some 35), .bin .lss (.t 32) (.t 34), none⟩])
      (.cond (.t 35)
       (.seq
        (.reg none [⟨(some 4), .mv (.c (.int .i64 (-1))), none⟩])
        .ret)
       .skip))
     (.seq
      (.reg none [⟨(some 4), .mv (.c (.int .i64 0)), none⟩])
      .ret)))) }
theorem f59P : prepF C Try.f59 = some f59A := by kernel_rfl

/-- congou/counts.Path -/
def f60A : AFunc :=
{ nargs := 2, res := [.t 4, .t 5], body :=
  (.seq
   (.reg none [⟨(some 4), .mv (.c .nils), none⟩,
     ⟨(some 5), .mv (.c (.int .i64 0)), none⟩])
   (.seq
    (.seq
     (.block 0
      (.seq
       (.reg none [⟨(some 15), .mv (.t 0), none⟩,
         ⟨(some 16), .call 70 [(.t 15)], none⟩,
         ⟨(some 17), .un .not (.t 16), none⟩,
         ⟨(some 18), .mv (.t 17), none⟩,
         ⟨(some 19), .mv (.t 1), some (18, false)⟩,
         ⟨(some 20), .call 70 [(.t 19)], some (18, false)⟩,
         ⟨(some 21), .un .not (.t 20), some (18, false)⟩,
         ⟨(some 22), .pick (.t 18) (.c (.b true)) (.t 21), none⟩,
         ⟨(some 14), .mv (.t 22), none⟩])
       (.cond (.t 14)
        (.seq
         (.reg none [⟨(some 4), .mv (.c .nils), none⟩,
           ⟨(some 5), .mv (.c (.int .i64 2)), none⟩])
         .ret)
        (.seq
         (.reg none [⟨(some 24), .mv (.t 0), none⟩,
           ⟨(some 25), .mv (.t 1), none⟩,
           ⟨(some 26), .call 90 [(.t 24), (.t 25)], none⟩,
           ⟨(some 27), .un .not (.t 26), none⟩,
           ⟨(some 23), .mv (.t 27), none⟩])
         (.cond (.t 23)
          (.seq
           (.reg none [⟨(some 4), .mv (.c .nils), none⟩,
             ⟨(some 5), .mv (.c (.int .i64 4)), none⟩])
           .ret)
          .skip)))))
     (.seq
      (.reg none [⟨(some 28), .mkmap 9, none⟩,
        ⟨(some 29), .mv (.t 0), none⟩,
        ⟨(some 30), .call 91 [(.t 29)], none⟩,
        ⟨none, .mset 9 (.t 28) (.t 30) (.c .nils), none⟩,
        ⟨(some 31), .mv (.t 28), none⟩,
        ⟨(some 6), .mv (.t 31), none⟩])
      (.seq
       .skip
       (.seq
        (.seq
         (.reg none [⟨(some 32), .mv (.t 0), none⟩,
           ⟨(some 33), .bslice [.nils] 1 1 [(0, (.t 32))], none⟩,
           ⟨(some 7), .mv (.t 33), none⟩])
         (.block 1
          (.loop
           (.seq
            (.seq
             (.reg none [⟨(some 34), .mv (.t 0), none⟩,
               ⟨(some 35), .mv (.t 1), none⟩,
               ⟨(some 36), .call 92 [(.t 34), (.t 35)], none⟩,
               ⟨(some 37), .bin .neq (.t 36) (.c (.int .i64 0)), none⟩])
             (.cond (.t 37)
              .skip
              (.exit 1)))
            (.seq
             (.block 2
              (.seq
               (.reg none [⟨(some 40), .mv (.t 7), none⟩,
                 ⟨(some 41), .iaddr 1 (.t 40) (.c (.int .i64 0)), none⟩,
                 ⟨(some 42), .load none (.t 41), none⟩,
                 ⟨(some 43), .call 93 [(.t 42)], none⟩,
                 ⟨(some 44), .len (.t 43), none⟩,
                 ⟨(some 45), .mv (.c (.int .i64 0)), none⟩])
               (.block 3
                (.loop
                 (.seq
                  (.reg none [⟨(some 46), .bin .lss (.t 45) (.t 44), none⟩])
                  (.seq
                   (.cond (.t 46)
                    .skip
                    (.exit 3))
                   (.seq
                    (.block 4
                     (.seq
                      (.reg none [⟨(some 47), .iaddr 1 (.t 43) (.t 45), none⟩,
                        ⟨(some 48), .load none (.t 47), none⟩,
                        ⟨(some 9), .mv (.t 48), none⟩])
                      (.seq
                       (.seq
                        (.reg none [⟨(some 50), .mv (.t 6), none⟩,
                          ⟨(some 51), .mv (.t 9), none⟩,
                          ⟨(some 52), .call 91 [(.t 51)], none⟩,
                          ⟨(some 53), .mlook 9 .nils true (.t 50) (.t 52), none⟩,
                          ⟨(some 49), .mv (.t 53), none⟩,
                          ⟨(some 54), .extr (.t 49) 0, none⟩,
                          ⟨(some 55), .extr (.t 49) 1, none⟩,
                          ⟨(some 10), .mv (.t 54), none⟩,
                          ⟨(some 11), .mv (.t 55), none⟩])
                        (.seq
                         (.reg none [⟨(some 56), .mv (.t 11), none⟩])
                         (.cond (.t 56)
                          (.exit 4)
                          .skip)))
                       (.seq
                        (.reg (some []) [⟨(some 57), .mv (.t 6), none⟩,
                          ⟨(some 58), .mv (.t 9), none⟩,
                          ⟨(some 59), .call 91 [(.t 58)], none⟩,
                          ⟨(some 60), .mv (.t 7), none⟩,
                          ⟨(some 61), .iaddr 1 (.t 60) (.c (.int .i64 0)), none⟩,
                          ⟨(some 62), .load none (.t 61), none⟩,
                          ⟨none, .mset 9 (.t 57) (.t 59) (.t 62), none⟩])
                        (.seq
                         (.seq
                          (.reg none [⟨(some 63), .mv (.t 9), none⟩,
                            ⟨(some 64), .mv (.t 1), none⟩,
                            ⟨(some 65), .call 92 [(.t 63), (.t 64)], none⟩,
                            ⟨(some 66), .bin .eql (.t 65) (.c (.int .i64 0)), none⟩])
                          (.cond (.t 66)
                           (.exit 1)
                           .skip))
                         (.reg none [⟨(some 67), .mv (.t 7), none⟩,
                           ⟨(some 68), .mv (.t 9), none⟩,
                           ⟨(some 69), .bslice [.nils] 1 1 [(0, (.t 68))], none⟩,
                           ⟨(some 70), .append 1 24 (.t 67) (.t 69), none⟩,
                           ⟨(some 7), .mv (.t 70), none⟩]))))))
                    (.reg none [⟨(some 71), .bin .add (.t 45) (.c (.int .i64 1)), none⟩,
                      ⟨(some 45), .mv (.t 71), none⟩]))))))))
             (.reg none [⟨(some 38), .mv (.t 7), none⟩,
               ⟨(some 39), .slice 1 (.t 38) (some (.c (.int .i64 1))) none none, none⟩,
               ⟨(some 7), .mv (.t 39), none⟩]))))))
        (.seq
         (.reg none [⟨(some 12), .mv (.c .nils), none⟩])
         (.seq
          (.seq
           (.reg none [⟨(some 72), .mv (.t 1), none⟩,
             ⟨(some 13), .mv (.t 72), none⟩])
           (.block 5
            (.loop
             (.seq
              (.seq
               (.reg none [⟨(some 73), .mv (.t 13), none⟩,
                 ⟨(some 74), .seq true (.t 73) (.c .nils), none⟩])
               (.cond (.t 74)
                .skip
                (.exit 5)))
              (.seq
               (.block 6
                (.reg none [⟨(some 79), .mv (.t 12), none⟩,
                  ⟨(some 80), .mv (.t 13), none⟩,
                  ⟨(some 81), .call 84 [(.t 80)], none⟩,
                  ⟨(some 82), .bslice [.nils] 1 1 [(0, (.t 81))], none⟩,
                  ⟨(some 83), .append 1 24 (.t 79) (.t 82), none⟩,
                  ⟨(some 12), .mv (.t 83), none⟩]))
               (.reg none [⟨(some 75), .mv (.t 6), none⟩,
                 ⟨(some 76), .mv (.t 13), none⟩,
                 ⟨(some 77), .call 91 [(.t 76)], none⟩,
                 ⟨(some 78), .mlook 9 .nils false (.t 75) (.t 77), none⟩,
                 ⟨(some 13), .mv (.t 78), none⟩]))))))
          (.seq
           (.reg none [⟨(some 84), .mv (.t 12), none⟩,
             ⟨(some 85), .call 68 [(.t 84)], none⟩])
           (.seq
            (.reg none [⟨(some 86), .mv (.t 12), none⟩,
              ⟨(some 4), .mv (.t 86), none⟩,
              ⟨(some 5), .mv (.c (.int .i64 0)), none⟩])
            .ret))))))))
    .skip)) }
theorem f60P : prepF C Try.f60 = some f60A := by kernel_rfl

/-- congou/counts.CheckPath -/
def f61A : AFunc :=
{ nargs := 3, res := [.t 6, .t 7], body :=
  (.seq
   (.reg none [⟨(some 6), .mv (.c (.b false)), none⟩,
     ⟨(some 7), .mv (.c (.int .i64 0)), none⟩])
   (.seq
    (.seq
     (.reg none [⟨(some 11), .mv (.t 0), none⟩,
       ⟨(some 12), .call 70 [(.t 11)], none⟩,
       ⟨(some 13), .un .not (.t 12), none⟩,
       ⟨(some 14), .mv (.t 13), none⟩,
       ⟨(some 15), .mv (.t 1), some (14, false)⟩,
       ⟨(some 16), .call 70 [(.t 15)], some (14, false)⟩,
       ⟨(some 17), .un .not (.t 16), some (14, false)⟩,
       ⟨(some 18), .pick (.t 14) (.c (.b true)) (.t 17), none⟩])
     (.cond (.t 18)
      (.seq
       (.reg none [⟨(some 6), .mv (.c (.b false)), none⟩,
         ⟨(some 7), .mv (.c (.int .i64 2)), none⟩])
       .ret)
      .skip))
    (.seq
     (.seq
      (.reg none [⟨(some 19), .mv (.t 2), none⟩,
        ⟨(some 20), .len (.t 19), none⟩,
        ⟨(some 21), .bin .eql (.t 20) (.c (.int .i64 0)), none⟩,
        ⟨(some 22), .mv (.t 21), none⟩,
        ⟨(some 23), .mv (.t 2), some (22, false)⟩,
        ⟨(some 24), .iaddr 1 (.t 23) (.c (.int .i64 0)), some (22, false)⟩,
        ⟨(some 25), .load none (.t 24), some (22, false)⟩,
        ⟨(some 26), .mv (.t 0), some (22, false)⟩,
        ⟨(some 27), .call 92 [(.t 25), (.t 26)], some (22, false)⟩,
        ⟨(some 28), .bin .neq (.t 27) (.c (.int .i64 0)), some (22, false)⟩,
        ⟨(some 29), .pick (.t 22) (.c (.b true)) (.t 28), none⟩,
        ⟨(some 30), .mv (.t 29), none⟩,
        ⟨(some 31), .mv (.t 2), some (30, false)⟩,
        ⟨(some 32), .mv (.t 2), some (30, false)⟩,
        ⟨(some 33), .len (.t 32), some (30, false)⟩,
        ⟨(some 34), .bin .sub (.t 33) (.c (.int .i64 1)), some (30, false)⟩,
        ⟨(some 35), .iaddr 1 (.t 31) (.t 34), some (30, false)⟩,
        ⟨(some 36), .load none (.t 35), some (30, false)⟩,
        ⟨(some 37), .mv (.t 1), some (30, false)⟩,
        ⟨(some 38), .call 92 [(.t 36), (.t 37)], some (30, false)⟩,
        ⟨(some 39), .bin .neq (.t 38) (.c (.int .i64 0)), some (30, false)⟩,
        ⟨(some 40), .pick (.t 30) (.c (.b true)) (.t 39), none⟩])
      (.cond (.t 40)
       (.seq
        (.reg none [⟨(some 6), .mv (.c (.b false)), none⟩,
          ⟨(some 7), .mv (.c (.int .i64 0)), none⟩])
        .ret)
       .skip))
     (.seq
      (.reg none [⟨(some 41), .mv (.t 0), none⟩,
        ⟨(some 8), .mv (.t 41), none⟩])
      (.seq
       (.seq
        (.reg none [⟨(some 42), .mv (.t 2), none⟩,
          ⟨(some 43), .slice 1 (.t 42) (some (.c (.int .i64 1))) none none, none⟩,
          ⟨(some 44), .len (.t 43), none⟩,
          ⟨(some 45), .mv (.c (.int .i64 0)), none⟩])
        (.block 0
         (.loop
          (.seq
           (.reg none [⟨(some 46), .bin .lss (.t 45) (.t 44), none⟩])
           (.seq
            (.cond (.t 46)
             .skip
             (.exit 0))
            (.seq
             (.block 1
              (.seq
               (.reg none [⟨(some 47), .iaddr 1 (.t 43) (.t 45), none⟩,
                 ⟨(some 48), .load none (.t 47), none⟩,
                 ⟨(some 10), .alloc [.nils], none⟩,
                 ⟨none, .store 1 (.t 10) (.t 48), none⟩])
               (.seq
                (.seq
                 (.reg none [⟨(some 49), .mv (.t 8), none⟩,
                   ⟨(some 50), .call 93 [(.t 49)], none⟩,
                   ⟨(some 51), .mkfn 95 [] [(.t 10)], none⟩,
                   ⟨(some 52), .call 94 [(.t 50), (.t 51)], none⟩,
                   ⟨(some 53), .un .not (.t 52), none⟩])
                 (.cond (.t 53)
                  (.seq
                   (.reg none [⟨(some 6), .mv (.c (.b false)), none⟩,
                     ⟨(some 7), .mv (.c (.int .i64 0)), none⟩])
                   .ret)
                  .skip))
                (.reg none [⟨(some 54), .load none (.t 10), none⟩,
                  ⟨(some 8), .mv (.t 54), none⟩]))))
             (.reg none [⟨(some 55), .bin .add (.t 45) (.c (.int .i64 1)), none⟩,
               ⟨(some 45), .mv (.t 55), none⟩])))))))
       (.seq
        (.reg none [⟨(some 6), .mv (.c (.b true)), none⟩,
          ⟨(some 7), .mv (.c (.int .i64 0)), none⟩])
        .ret)))))) }
theorem f61P : prepF C Try.f61 = some f61A := by kernel_rfl

/-- congou/congoulaw06.path -/
def f62A : AFunc :=
{ nargs := 1, res := [.t 2], body :=
  (.seq
   (.reg none [⟨(some 2), .mv (.c .nils), none⟩])
   (.seq
    (.reg none [⟨(some 3), .mv (.c .nils), none⟩])
    (.seq
     (.seq
      (.reg none [⟨(some 6), .mv (.t 0), none⟩,
        ⟨(some 7), .len (.t 6), none⟩,
        ⟨(some 8), .mv (.c (.int .i64 0)), none⟩])
      (.block 0
       (.loop
        (.seq
         (.reg none [⟨(some 9), .bin .lss (.t 8) (.t 7), none⟩])
         (.seq
          (.cond (.t 9)
           .skip
           (.exit 0))
          (.seq
           (.block 1
            (.seq
             (.reg none [⟨(some 10), .mv (.t 8), none⟩,
               ⟨(some 11), .iaddr 1 (.t 6) (.t 8), none⟩,
               ⟨(some 12), .load none (.t 11), none⟩,
               ⟨(some 4), .mv (.t 10), none⟩,
               ⟨(some 5), .mv (.t 12), none⟩])
             (.seq
              (.reg none [⟨(some 13), .mv (.t 4), none⟩,
                ⟨(some 14), .bin .lss (.t 13) (.c (.int .i64 40)), none⟩])
              (.cond (.t 14)
               (.reg none [⟨(some 15), .mv (.t 3), none⟩,
                 ⟨(some 16), .mv (.t 5), none⟩,
                 ⟨(some 17), .call 20 [(.t 16)], none⟩,
                 ⟨(some 18), .bslice [.nils] 1 1 [(0, (.t 17))], none⟩,
                 ⟨(some 19), .append 1 24 (.t 15) (.t 18), none⟩,
                 ⟨(some 3), .mv (.t 19), none⟩])
               .skip))))
           (.reg none [⟨(some 20), .bin .add (.t 8) (.c (.int .i64 1)), none⟩,
             ⟨(some 8), .mv (.t 20), none⟩])))))))
     (.seq
      (.reg none [⟨(some 21), .mv (.t 3), none⟩,
        ⟨(some 2), .mv (.t 21), none⟩])
      .ret)))) }
theorem f62P : prepF C Try.f62 = some f62A := by kernel_rfl

/-- congou/congouref06.Akin -/
def f63A : AFunc :=
{ nargs := 2, res := [.t 4], body :=
  (.seq
   (.reg none [⟨(some 4), .mv (.c (.b false)), none⟩])
   (.seq
    (.reg (some []) [⟨(some 5), .mv (.t 0), none⟩,
      ⟨(some 6), .len (.t 5), none⟩,
      ⟨(some 7), .mv (.t 1), none⟩,
      ⟨(some 8), .len (.t 7), none⟩,
      ⟨(some 9), .bin .eql (.t 6) (.t 8), none⟩,
      ⟨(some 10), .mv (.t 9), none⟩,
      ⟨(some 11), .mv (.t 0), some (10, true)⟩,
      ⟨(some 12), .iaddr 1 (.t 11) (.c (.int .i64 0)), some (10, true)⟩,
      ⟨(some 13), .load none (.t 12), some (10, true)⟩,
      ⟨(some 14), .len (.t 13), some (10, true)⟩,
      ⟨(some 15), .mv (.t 1), some (10, true)⟩,
      ⟨(some 16), .iaddr 1 (.t 15) (.c (.int .i64 0)), some (10, true)⟩,
      ⟨(some 17), .load none (.t 16), some (10, true)⟩,
      ⟨(some 18), .len (.t 17), some (10, true)⟩,
      ⟨(some 19), .bin .eql (.t 14) (.t 18), some (10, true)⟩,
      ⟨(some 20), .pick (.t 10) (.t 19) (.c (.b false)), none⟩,
      ⟨(some 21), .mv (.t 20), none⟩,
      ⟨(some 22), .mv (.t 0), some (21, true)⟩,
      ⟨(some 23), .call 44 [(.t 22)], some (21, true)⟩,
      ⟨(some 24), .mv (.t 1), some (21, true)⟩,
      ⟨(some 25), .call 96 [(.t 23), (.t 24)], some (21, true)⟩,
      ⟨(some 26), .pick (.t 21) (.t 25) (.c (.b false)), none⟩,
      ⟨(some 4), .mv (.t 26), none⟩])
    .ret)) }
theorem f63P : prepF C Try.f63 = some f63A := by kernel_rfl

/-- congou/congouref06.IsPath -/
def f64A : AFunc :=
{ nargs := 3, res := [.t 6], body :=
  (.seq
   (.reg none [⟨(some 6), .mv (.c (.b false)), none⟩])
   (.seq
    (.seq
     (.reg none [⟨(some 9), .mv (.t 2), none⟩,
       ⟨(some 10), .len (.t 9), none⟩,
       ⟨(some 11), .mv (.c (.int .i64 0)), none⟩])
     (.block 0
      (.loop
       (.seq
        (.reg none [⟨(some 12), .bin .lss (.t 11) (.t 10), none⟩])
        (.seq
         (.cond (.t 12)
          .skip
          (.exit 0))
         (.seq
          (.block 1
           (.seq
            (.reg none [⟨(some 13), .mv (.t 11), none⟩,
              ⟨(some 14), .iaddr 1 (.t 9) (.t 11), none⟩,
              ⟨(some 15), .load none (.t 14), none⟩,
              ⟨(some 7), .mv (.t 13), none⟩,
              ⟨(some 8), .mv (.t 15), none⟩])
            (.seq
             (.reg none [⟨(some 16), .mv (.t 7), none⟩,
               ⟨(some 17), .bin .eql (.t 16) (.c (.int .i64 0)), none⟩,
               ⟨(some 18), .mv (.t 17), none⟩,
               ⟨(some 19), .mv (.t 8), some (18, true)⟩,
               ⟨(some 20), .mv (.t 0), some (18, true)⟩,
               ⟨(some 21), .call 26 [(.t 19), (.t 20)], some (18, true)⟩,
               ⟨(some 22), .un .not (.t 21), some (18, true)⟩,
               ⟨(some 23), .pick (.t 18) (.t 22) (.c (.b false)), none⟩,
               ⟨(some 24), .mv (.t 23), none⟩,
               ⟨(some 25), .mv (.t 7), some (24, false)⟩,
               ⟨(some 26), .bin .gtr (.t 25) (.c (.int .i64 0)), some (24, false)⟩,
               ⟨(some 27), .mv (.t 26), some (24, false)⟩,
               ⟨(some 28), .mv (.t 2), some (27, true)⟩,
               ⟨(some 29), .mv (.t 7), some (27, true)⟩,
               ⟨(some 30), .bin .sub (.t 29) (.c (.int .i64 1)), some (27, true)⟩,
               ⟨(some 31), .iaddr 1 (.t 28) (.t 30), some (27, true)⟩,
               ⟨(some 32), .load none (.t 31), some (27, true)⟩,
               ⟨(some 33), .call 97 [(.t 32)], some (27, true)⟩,
               ⟨(some 34), .mv (.t 8), some (27, true)⟩,
               ⟨(some 35), .call 96 [(.t 33), (.t 34)], some (27, true)⟩,
               ⟨(some 36), .un .not (.t 35), some (27, true)⟩,
               ⟨(some 37), .pick (.t 27) (.t 36) (.c (.b false)), some (24, false)⟩,
               ⟨(some 38), .pick (.t 24) (.c (.b true)) (.t 37), none⟩])
             (.cond (.t 38)
              (.seq
               (.reg none [⟨(some 6), .mv (.c (.b false)), none⟩])
               .ret)
              .skip))))
          (.reg none [⟨(some 39), .bin .add (.t 11) (.c (.int .i64 1)), none⟩,
            ⟨(some 11), .mv (.t 39), none⟩])))))))
    (.seq
     (.reg none [⟨(some 40), .mv (.t 2), none⟩,
       ⟨(some 41), .len (.t 40), none⟩,
       ⟨(some 42), .bin .gtr (.t 41) (.c (.int .i64 0)), none⟩,
       ⟨(some 43), .mv (.t 42), none⟩,
       ⟨(some 44), .mv (.t 2), some (43, true)⟩,
       ⟨(some 45), .mv (.t 2), some (43, true)⟩,
       ⟨(some 46), .len (.t 45), some (43, true)⟩,
       ⟨(some 47), .bin .sub (.t 46) (.c (.int .i64 1)), some (43, true)⟩,
       ⟨(some 48), .iaddr 1 (.t 44) (.t 47), some (43, true)⟩,
       ⟨(some 49), .load none (.t 48), some (43, true)⟩,
       ⟨(some 50), .mv (.t 1), some (43, true)⟩,
       ⟨(some 51), .call 26 [(.t 49), (.t 50)], some (43, true)⟩,
       ⟨(some 52), .pick (.t 43) (.t 51) (.c (.b false)), none⟩,
       ⟨(some 6), .mv (.t 52), none⟩])
     .ret))) }
theorem f64P : prepF C Try.f64 = some f64A := by kernel_rfl

/-- congou/congouref06.Far -/
def f65A : AFunc :=
{ nargs := 2, res := [.t 4], body :=
  (.seq
   (.reg none [⟨(some 4), .mv (.c (.int .i64 0)), none⟩])
   (.seq
    (.reg none [⟨(some 13), .mv (.t 0), none⟩,
      ⟨(some 14), .bslice [.nils] 1 1 [(0, (.t 13))], none⟩,
      ⟨(some 15), .mv (.t 0), none⟩,
      ⟨(some 16), .bslice [.nils] 1 1 [(0, (.t 15))], none⟩,
      ⟨(some 5), .mv (.t 14), none⟩,
      ⟨(some 6), .mv (.t 16), none⟩])
    (.seq
     (.reg none [⟨(some 7), .mv (.c (.int .i64 0)), none⟩])
     (.block 0
      (.loop
       (.seq
        (.block 1
         (.seq
          (.seq
           (.reg none [⟨(some 19), .mv (.t 5), none⟩,
             ⟨(some 20), .mv (.t 1), none⟩,
             ⟨(some 21), .call 96 [(.t 19), (.t 20)], none⟩])
           (.cond (.t 21)
            (.seq
             (.reg none [⟨(some 22), .mv (.t 7), none⟩,
               ⟨(some 4), .mv (.t 22), none⟩])
             .ret)
            .skip))
          (.seq
           (.reg none [⟨(some 8), .mv (.c .nils), none⟩])
           (.seq
            (.seq
             (.reg none [⟨(some 23), .mv (.t 5), none⟩,
               ⟨(some 24), .len (.t 23), none⟩,
               ⟨(some 25), .mv (.c (.int .i64 0)), none⟩])
             (.block 2
              (.loop
               (.seq
                (.reg none [⟨(some 26), .bin .lss (.t 25) (.t 24), none⟩])
                (.seq
                 (.cond (.t 26)
                  .skip
                  (.exit 2))
                 (.seq
                  (.block 3
                   (.seq
                    (.reg none [⟨(some 27), .iaddr 1 (.t 23) (.t 25), none⟩,
                      ⟨(some 28), .load none (.t 27), none⟩,
                      ⟨(some 10), .mv (.t 28), none⟩])
                    (.seq
                     (.reg none [⟨(some 29), .mv (.t 10), none⟩,
                       ⟨(some 30), .call 97 [(.t 29)], none⟩,
                       ⟨(some 31), .len (.t 30), none⟩,
                       ⟨(some 32), .mv (.c (.int .i64 0)), none⟩])
                     (.block 4
                      (.loop
                       (.seq
                        (.reg none [⟨(some 33), .bin .lss (.t 32) (.t 31), none⟩])
                        (.seq
                         (.cond (.t 33)
                          .skip
                          (.exit 4))
                         (.seq
                          (.block 5
                           (.seq
                            (.reg none [⟨(some 34), .iaddr 1 (.t 30) (.t 32), none⟩,
                              ⟨(some 35), .load none (.t 34), none⟩,
                              ⟨(some 12), .mv (.t 35), none⟩])
                            (.seq
                             (.reg none [⟨(some 36), .mv (.t 6), none⟩,
                               ⟨(some 37), .mv (.t 12), none⟩,
                               ⟨(some 38), .call 96 [(.t 36), (.t 37)], none⟩,
                               ⟨(some 39), .un .not (.t 38), none⟩])
                             (.cond (.t 39)
                              (.seq
                               (.reg none [⟨(some 40), .mv (.t 6), none⟩,
                                 ⟨(some 41), .mv (.t 12), none⟩,
                                 ⟨(some 42), .bslice [.nils] 1 1 [(0, (.t 41))], none⟩,
                                 ⟨(some 43), .append 1 24 (.t 40) (.t 42), none⟩,
                                 ⟨(some 6), .mv (.t 43), none⟩])
                               (.reg none [⟨(some 44), .mv (.t 8), none⟩,
                                 ⟨(some 45), .mv (.t 12), none⟩,
                                 ⟨(some 46), .bslice [.nils] 1 1 [(0, (.t 45))], none⟩,
                                 ⟨(some 47), .append 1 24 (.t 44) (.t 46), none⟩,
                                 ⟨(some 8), .mv (.t 47), none⟩]))
                              .skip))))
                          (.reg none [⟨(some 48), .bin .add (.t 32) (.c (.int .i64 1)), none⟩,
                            ⟨(some 32), .mv (.t 48), none⟩])))))))))
                  (.reg none [⟨(some 49), .bin .add (.t 25) (.c (.int .i64 1)), none⟩,
                    ⟨(some 25), .mv (.t 49), none⟩])))))))
            (.reg none [⟨(some 50), .mv (.t 8), none⟩,
              ⟨(some 5), .mv (.t 50), none⟩])))))
        (.reg none [⟨(some 17), .mv (.t 7), none⟩,
          ⟨(some 18), .bin .add (.t 17) (.c (.int .i64 1)), none⟩,
          ⟨(some 7), .mv (.t 18), none⟩]))))))) }
theorem f65P : prepF C Try.f65 = some f65A := by kernel_rfl

/-- slices.Reverse[[][][]int,[][]int] -/
def f68A : AFunc :=
{ nargs := 1, res := [], body :=
  (.seq
   (.reg none [⟨(some 4), .mv (.t 0), none⟩,
     ⟨(some 5), .len (.t 4), none⟩,
     ⟨(some 6), .bin .sub (.t 5) (.c (.int .i64 1)), none⟩,
     ⟨(some 2), .mv (.c (.int .i64 0)), none⟩,
     ⟨(some 3), .mv (.t 6), none⟩])
   (.block 0
    (.loop
     (.seq
      (.seq
       (.reg none [⟨(some 7), .mv (.t 2), none⟩,
         ⟨(some 8), .mv (.t 3), none⟩,
         ⟨(some 9), .bin .lss (.t 7) (.t 8), none⟩])
       (.cond (.t 9)
        .skip
        (.exit 0)))
      (.seq
       (.block 1
        (.reg (some []) [⟨(some 14), .mv (.t 0), none⟩,
          ⟨(some 15), .mv (.t 2), none⟩,
          ⟨(some 16), .mv (.t 0), none⟩,
          ⟨(some 17), .mv (.t 3), none⟩,
          ⟨(some 18), .mv (.t 0), none⟩,
          ⟨(some 19), .mv (.t 3), none⟩,
          ⟨(some 20), .iaddr 1 (.t 18) (.t 19), none⟩,
          ⟨(some 21), .load none (.t 20), none⟩,
          ⟨(some 22), .mv (.t 0), none⟩,
          ⟨(some 23), .mv (.t 2), none⟩,
          ⟨(some 24), .iaddr 1 (.t 22) (.t 23), none⟩,
          ⟨(some 25), .load none (.t 24), none⟩,
          ⟨(some 26), .iaddr 1 (.t 14) (.t 15), none⟩,
          ⟨none, .store 1 (.t 26) (.t 21), none⟩,
          ⟨(some 27), .iaddr 1 (.t 16) (.t 17), none⟩,
          ⟨none, .store 1 (.t 27) (.t 25), none⟩]))
       (.reg none [⟨(some 10), .mv (.t 2), none⟩,
         ⟨(some 11), .bin .add (.t 10) (.c (.int .i64 1)), none⟩,
         ⟨(some 12), .mv (.t 3), none⟩,
         ⟨(some 13), .bin .sub (.t 12) (.c (.int .i64 1)), none⟩,
         ⟨(some 2), .mv (.t 11), none⟩,
         ⟨(some 3), .mv (.t 13), none⟩])))))) }
theorem f68P : prepF C Try.f68 = some f68A := by kernel_rfl

/-- (congou/counts.table).valid -/
def f70A : AFunc :=
{ nargs := 1, res := [.t 2], body :=
  (.seq
   (.reg none [⟨(some 2), .mv (.c (.b false)), none⟩])
   (.seq
    (.seq
     (.reg none [⟨(some 8), .mv (.t 0), none⟩,
       ⟨(some 9), .len (.t 8), none⟩,
       ⟨(some 10), .bin .lss (.t 9) (.c (.int .i64 1)), none⟩,
       ⟨(some 11), .mv (.t 10), none⟩,
       ⟨(some 12), .mv (.t 0), some (11, false)⟩,
       ⟨(some 13), .len (.t 12), some (11, false)⟩,
       ⟨(some 14), .bin .gtr (.t 13) (.c (.int .i64 3)), some (11, false)⟩,
       ⟨(some 15), .pick (.t 11) (.c (.b true)) (.t 14), none⟩])
     (.cond (.t 15)
      (.seq
       (.reg none [⟨(some 2), .mv (.c (.b false)), none⟩])
       .ret)
      .skip))
    (.seq
     (.reg none [⟨(some 3), .mv (.c (.int .i64 0)), none⟩])
     (.seq
      (.seq
       (.reg none [⟨(some 16), .mv (.t 0), none⟩,
         ⟨(some 17), .len (.t 16), none⟩,
         ⟨(some 18), .mv (.c (.int .i64 0)), none⟩])
       (.block 0
        (.loop
         (.seq
          (.reg none [⟨(some 19), .bin .lss (.t 18) (.t 17), none⟩])
          (.seq
           (.cond (.t 19)
            .skip
            (.exit 0))
           (.seq
            (.block 1
             (.seq
              (.reg none [⟨(some 20), .iaddr 1 (.t 16) (.t 18), none⟩,
                ⟨(some 21), .load none (.t 20), none⟩,
                ⟨(some 5), .mv (.t 21), none⟩])
              (.seq
               (.seq
                (.reg none [⟨(some 22), .mv (.t 5), none⟩,
                  ⟨(some 23), .len (.t 22), none⟩,
                  ⟨(some 24), .bin .lss (.t 23) (.c (.int .i64 1)), none⟩,
                  ⟨(some 25), .mv (.t 24), none⟩,
                  ⟨(some 26), .mv (.t 5), some (25, false)⟩,
                  ⟨(some 27), .len (.t 26), some (25, false)⟩,
                  ⟨(some 28), .bin .gtr (.t 27) (.c (.int .i64 3)), some (25, false)⟩,
                  ⟨(some 29), .pick (.t 25) (.c (.b true)) (.t 28), none⟩,
                  ⟨(some 30), .mv (.t 29), none⟩,
                  ⟨(some 31), .mv (.t 5), some (30, false)⟩,
                  ⟨(some 32), .len (.t 31), some (30, false)⟩,
                  ⟨(some 33), .mv (.t 0), some (30, false)⟩,
                  ⟨(some 34), .iaddr 1 (.t 33) (.c (.int .i64 0)), some (30, false)⟩,
                  ⟨(some 35), .load none (.t 34), some (30, false)⟩,
                  ⟨(some 36), .len (.t 35), some (30, false)⟩,
                  ⟨(some 37), .bin .neq (.t 32) (.t 36), some (30, false)⟩,
                  ⟨(some 38), .pick (.t 30) (.c (.b true)) (.t 37), none⟩,
                  ⟨(some 39), .mv (.t 38), none⟩,
                  ⟨(some 40), .mv (.t 5), some (39, false)⟩,
                  ⟨(some 41), .call 79 [(.t 40)], some (39, false)⟩,
                  ⟨(some 42), .un .not (.t 41), some (39, false)⟩,
                  ⟨(some 43), .pick (.t 39) (.c (.b true)) (.t 42), none⟩])
                (.cond (.t 43)
                 (.seq
                  (.reg none [⟨(some 2), .mv (.c (.b false)), none⟩])
                  .ret)
                 .skip))
               (.seq
                (.reg none [⟨(some 44), .mv (.t 5), none⟩,
                  ⟨(some 45), .len (.t 44), none⟩,
                  ⟨(some 46), .mv (.c (.int .i64 0)), none⟩])
                (.block 2
                 (.loop
                  (.seq
                   (.reg none [⟨(some 47), .bin .lss (.t 46) (.t 45), none⟩])
                   (.seq
                    (.cond (.t 47)
                     .skip
                     (.exit 2))
                    (.seq
                     (.block 3
                      (.seq
                       (.reg none [⟨(some 48), .iaddr 1 (.t 44) (.t 46), none⟩,
                         ⟨(some 49), .load none (.t 48), none⟩,
                         ⟨(some 7), .mv (.t 49), none⟩])
                       (.reg none [⟨(some 50), .mv (.t 3), none⟩,
                         ⟨(some 51), .mv (.t 7), none⟩,
                         ⟨(some 52), .bin .add (.t 50) (.t 51), none⟩,
                         ⟨(some 3), .mv (.t 52), none⟩])))
                     (.reg none [⟨(some 53), .bin .add (.t 46) (.c (.int .i64 1)), none⟩,
                       ⟨(some 46), .mv (.t 53), none⟩]))))))))))
            (.reg none [⟨(some 54), .bin .add (.t 18) (.c (.int .i64 1)), none⟩,
              ⟨(some 18), .mv (.t 54), none⟩])))))))
      (.seq
       (.reg none [⟨(some 55), .mv (.t 3), none⟩,
         ⟨(some 56), .bin .leq (.t 55) (.c (.int .i64 16)), none⟩,
         ⟨(some 2), .mv (.t 56), none⟩])
       .ret))))) }
theorem f70P : prepF C Try.f70 = some f70A := by kernel_rfl

/-- (congou/counts.table).sums -/
def f71A : AFunc :=
{ nargs := 1, res := [.t 2, .t 3], body :=
  (.seq
   (.reg none [⟨(some 2), .mv (.c .nils), none⟩,
     ⟨(some 3), .mv (.c .nils), none⟩])
   (.seq
    (.reg none [⟨(some 9), .mv (.t 0), none⟩,
      ⟨(some 10), .iaddr 1 (.t 9) (.c (.int .i64 0)), none⟩,
      ⟨(some 11), .load none (.t 10), none⟩,
      ⟨(some 12), .len (.t 11), none⟩,
      ⟨(some 13), .mkslice 1 8 [(.int .i64 0)] (.t 12), none⟩,
      ⟨(some 3), .mv (.t 13), none⟩])
    (.seq
     (.seq
      (.reg none [⟨(some 14), .mv (.t 0), none⟩,
        ⟨(some 15), .len (.t 14), none⟩,
        ⟨(some 16), .mv (.c (.int .i64 0)), none⟩])
      (.block 0
       (.loop
        (.seq
         (.reg none [⟨(some 17), .bin .lss (.t 16) (.t 15), none⟩])
         (.seq
          (.cond (.t 17)
           .skip
           (.exit 0))
          (.seq
           (.block 1
            (.seq
             (.reg none [⟨(some 18), .iaddr 1 (.t 14) (.t 16), none⟩,
               ⟨(some 19), .load none (.t 18), none⟩,
               ⟨(some 5), .mv (.t 19), none⟩])
             (.seq
              (.reg none [⟨(some 6), .mv (.c (.int .i64 0)), none⟩])
              (.seq
               (.seq
                (.reg none [⟨(some 20), .mv (.t 5), none⟩,
                  ⟨(some 21), .len (.t 20), none⟩,
                  ⟨(some 22), .mv (.c (.int .i64 0)), none⟩])
                (.block 2
                 (.loop
                  (.seq
                   (.reg none [⟨(some 23), .bin .lss (.t 22) (.t 21), none⟩])
                   (.seq
                    (.cond (.t 23)
                     .skip
                     (.exit 2))
                    (.seq
                     (.block 3
                      (.seq
                       (.reg none [⟨(some 24), .mv (.t 22), none⟩,
                         ⟨(some 25), .iaddr 1 (.t 20) (.t 22), none⟩,
                         ⟨(some 26), .load none (.t 25), none⟩,
                         ⟨(some 7), .mv (.t 24), none⟩,
                         ⟨(some 8), .mv (.t 26), none⟩])
                       (.seq
                        (.reg none [⟨(some 27), .mv (.t 6), none⟩,
                          ⟨(some 28), .mv (.t 8), none⟩,
                          ⟨(some 29), .bin .add (.t 27) (.t 28), none⟩,
                          ⟨(some 6), .mv (.t 29), none⟩])
                        (.reg none [⟨(some 30), .mv (.t 3), none⟩,
                          ⟨(some 31), .mv (.t 7), none⟩,
                          ⟨(some 32), .iaddr 1 (.t 30) (.t 31), none⟩,
                          ⟨(some 33), .load none (.t 32), none⟩,
                          ⟨(some 34), .mv (.t 8), none⟩,
                          ⟨(some 35), .bin .add (.t 33) (.t 34), none⟩,
                          ⟨(some 36), .iaddr 1 (.t 30) (.t 31), none⟩,
                          ⟨none, .store 1 (.t 36) (.t 35), none⟩]))))
                     (.reg none [⟨(some 37), .bin .add (.t 22) (.c (.int .i64 1)), none⟩,
                       ⟨(some 22), .mv (.t 37), none⟩])))))))
               (.reg none [⟨(some 38), .mv (.t 2), none⟩,
                 ⟨(some 39), .mv (.t 6), none⟩,
                 ⟨(some 40), .bslice [(.int .i64 0)] 1 1 [(0, (.t 39))], none⟩,
                 ⟨(some 41), .append 1 8 (.t 38) (.t 40), none⟩,
                 ⟨(some 2), .mv (.t 41), none⟩])))))
           (.reg none [⟨(some 42), .bin .add (.t 16) (.c (.int .i64 1)), none⟩,
             ⟨(some 16), .mv (.t 42), none⟩])))))))
     (.seq
      (.reg none [⟨(some 43), .mv (.t 2), none⟩,
        ⟨(some 44), .mv (.t 3), none⟩,
        ⟨(some 2), .mv (.t 43), none⟩,
        ⟨(some 3), .mv (.t 44), none⟩])
      .ret)))) }
theorem f71P : prepF C Try.f71 = some f71A := by kernel_rfl

/-- (congou/counts.table).swapped -/
def f74A : AFunc :=
{ nargs := 5, res := [.t 10, .t 11], body :=
  (.seq
   (.reg none [⟨(some 10), .mv (.c .nils), none⟩,
     ⟨(some 11), .mv (.c (.b false)), none⟩])
   (.seq
    (.seq
     (.reg none [⟨(some 13), .mv (.t 0), none⟩,
       ⟨(some 14), .mv (.t 1), none⟩,
       ⟨(some 15), .iaddr 1 (.t 13) (.t 14), none⟩,
       ⟨(some 16), .load none (.t 15), none⟩,
       ⟨(some 17), .mv (.t 4), none⟩,
       ⟨(some 18), .iaddr 1 (.t 16) (.t 17), none⟩,
       ⟨(some 19), .load none (.t 18), none⟩,
       ⟨(some 20), .bin .eql (.t 19) (.c (.int .i64 0)), none⟩,
       ⟨(some 21), .mv (.t 20), none⟩,
       ⟨(some 22), .mv (.t 0), some (21, false)⟩,
       ⟨(some 23), .mv (.t 2), some (21, false)⟩,
       ⟨(some 24), .iaddr 1 (.t 22) (.t 23), some (21, false)⟩,
       ⟨(some 25), .load none (.t 24), some (21, false)⟩,
       ⟨(some 26), .mv (.t 3), some (21, false)⟩,
       ⟨(some 27), .iaddr 1 (.t 25) (.t 26), some (21, false)⟩,
       ⟨(some 28), .load none (.t 27), some (21, false)⟩,
       ⟨(some 29), .bin .eql (.t 28) (.c (.int .i64 0)), some (21, false)⟩,
       ⟨(some 30), .pick (.t 21) (.c (.b true)) (.t 29), none⟩])
     (.cond (.t 30)
      (.seq
       (.reg none [⟨(some 10), .mv (.c .nils), none⟩,
         ⟨(some 11), .mv (.c (.b false)), none⟩])
       .ret)
      .skip))
    (.seq
     (.reg none [⟨(some 31), .mv (.t 0), none⟩,
       ⟨(some 32), .call 84 [(.t 31)], none⟩,
       ⟨(some 12), .mv (.t 32), none⟩])
     (.seq
      (.reg none [⟨(some 33), .mv (.t 12), none⟩,
        ⟨(some 34), .mv (.t 1), none⟩,
        ⟨(some 35), .iaddr 1 (.t 33) (.t 34), none⟩,
        ⟨(some 36), .load none (.t 35), none⟩,
        ⟨(some 37), .mv (.t 3), none⟩,
        ⟨(some 38), .iaddr 1 (.t 36) (.t 37), none⟩,
        ⟨(some 39), .load none (.t 38), none⟩,
        ⟨(some 40), .bin .add (.t 39) (.c (.int .i64 1)), none⟩,
        ⟨(some 41), .iaddr 1 (.t 36) (.t 37), none⟩,
        ⟨none, .store 1 (.t 41) (.t 40), none⟩])
      (.seq
       (.reg none [⟨(some 42), .mv (.t 12), none⟩,
         ⟨(some 43), .mv (.t 2), none⟩,
         ⟨(some 44), .iaddr 1 (.t 42) (.t 43), none⟩,
         ⟨(some 45), .load none (.t 44), none⟩,
         ⟨(some 46), .mv (.t 4), none⟩,
         ⟨(some 47), .iaddr 1 (.t 45) (.t 46), none⟩,
         ⟨(some 48), .load none (.t 47), none⟩,
         ⟨(some 49), .bin .add (.t 48) (.c (.int .i64 1)), none⟩,
         ⟨(some 50), .iaddr 1 (.t 45) (.t 46), none⟩,
         ⟨none, .store 1 (.t 50) (.t 49), none⟩])
       (.seq
        (.reg none [⟨(some 51), .mv (.t 12), none⟩,
          ⟨(some 52), .mv (.t 1), none⟩,
          ⟨(some 53), .iaddr 1 (.t 51) (.t 52), none⟩,
          ⟨(some 54), .load none (.t 53), none⟩,
          ⟨(some 55), .mv (.t 4), none⟩,
          ⟨(some 56), .iaddr 1 (.t 54) (.t 55), none⟩,
          ⟨(some 57), .load none (.t 56), none⟩,
          ⟨(some 58), .bin .sub (.t 57) (.c (.int .i64 1)), none⟩,
          ⟨(some 59), .iaddr 1 (.t 54) (.t 55), none⟩,
          ⟨none, .store 1 (.t 59) (.t 58), none⟩])
        (.seq
         (.reg none [⟨(some 60), .mv (.t 12), none⟩,
           ⟨(some 61), .mv (.t 2), none⟩,
           ⟨(some 62), .iaddr 1 (.t 60) (.t 61), none⟩,
           ⟨(some 63), .load none (.t 62), none⟩,
           ⟨(some 64), .mv (.t 3), none⟩,
           ⟨(some 65), .iaddr 1 (.t 63) (.t 64), none⟩,
           ⟨(some 66), .load none (.t 65), none⟩,
           ⟨(some 67), .bin .sub (.t 66) (.c (.int .i64 1)), none⟩,
           ⟨(some 68), .iaddr 1 (.t 63) (.t 64), none⟩,
           ⟨none, .store 1 (.t 68) (.t 67), none⟩])
         (.seq
          (.reg none [⟨(some 69), .mv (.t 12), none⟩,
            ⟨(some 10), .mv (.t 69), none⟩,
            ⟨(some 11), .mv (.c (.b true)), none⟩])
          .ret)))))))) }
theorem f74P : prepF C Try.f74 = some f74A := by kernel_rfl

/-- congou/congouref06.total -/
def f77A : AFunc :=
{ nargs := 1, res := [.t 2], body :=
  (.seq
   (.reg none [⟨(some 2), .mv (.c (.int .i64 0)), none⟩])
   (.seq
    (.reg none [⟨(some 3), .mv (.c (.int .i64 0)), none⟩])
    (.seq
     (.seq
      (.reg none [⟨(some 6), .mv (.t 0), none⟩,
        ⟨(some 7), .len (.t 6), none⟩,
        ⟨(some 8), .mv (.c (.int .i64 0)), none⟩])
      (.block 0
       (.loop
        (.seq
         (.reg none [⟨(some 9), .bin .lss (.t 8) (.t 7), none⟩])
         (.seq
          (.cond (.t 9)
           .skip
           (.exit 0))
          (.seq
           (.block 1
            (.seq
             (.reg none [⟨(some 10), .iaddr 1 (.t 6) (.t 8), none⟩,
               ⟨(some 11), .load none (.t 10), none⟩,
               ⟨(some 5), .mv (.t 11), none⟩])
             (.reg none [⟨(some 12), .mv (.t 3), none⟩,
               ⟨(some 13), .mv (.t 5), none⟩,
               ⟨(some 14), .bin .add (.t 12) (.t 13), none⟩,
               ⟨(some 3), .mv (.t 14), none⟩])))
           (.reg none [⟨(some 15), .bin .add (.t 8) (.c (.int .i64 1)), none⟩,
             ⟨(some 8), .mv (.t 15), none⟩])))))))
     (.seq
      (.reg none [⟨(some 16), .mv (.t 3), none⟩,
        ⟨(some 2), .mv (.t 16), none⟩])
      .ret)))) }
theorem f77P : prepF C Try.f77 = some f77A := by kernel_rfl

/-- congou/counts.isSums -/
def f79A : AFunc :=
{ nargs := 1, res := [.t 2], body :=
  (.seq
   (.reg none [⟨(some 2), .mv (.c (.b false)), none⟩])
   (.seq
    (.reg none [⟨(some 3), .mv (.c (.int .i64 0)), none⟩])
    (.seq
     (.seq
      (.reg none [⟨(some 6), .mv (.t 0), none⟩,
        ⟨(some 7), .len (.t 6), none⟩,
        ⟨(some 8), .mv (.c (.int .i64 0)), none⟩])
      (.block 0
       (.loop
        (.seq
         (.reg none [⟨(some 9), .bin .lss (.t 8) (.t 7), none⟩])
         (.seq
          (.cond (.t 9)
           .skip
           (.exit 0))
          (.seq
           (.block 1
            (.seq
             (.reg none [⟨(some 10), .iaddr 1 (.t 6) (.t 8), none⟩,
               ⟨(some 11), .load none (.t 10), none⟩,
               ⟨(some 5), .mv (.t 11), none⟩])
             (.seq
              (.seq
               (.reg none [⟨(some 12), .mv (.t 5), none⟩,
                 ⟨(some 13), .bin .lss (.t 12) (.c (.int .i64 0)), none⟩,
                 ⟨(some 14), .mv (.t 13), none⟩,
                 ⟨(some 15), .mv (.t 5), some (14, false)⟩,
                 ⟨(some 16), .bin .gtr (.t 15) (.c (.int .i64 16)), some (14, false)⟩,
                 ⟨(some 17), .pick (.t 14) (.c (.b true)) (.t 16), none⟩])
               (.cond (.t 17)
                (.seq
                 (.reg none [⟨(some 2), .mv (.c (.b false)), none⟩])
                 .ret)
                .skip))
              (.reg none [⟨(some 18), .mv (.t 3), none⟩,
                ⟨(some 19), .mv (.t 5), none⟩,
                ⟨(some 20), .bin .add (.t 18) (.t 19), none⟩,
                ⟨(some 3), .mv (.t 20), none⟩]))))
           (.reg none [⟨(some 21), .bin .add (.t 8) (.c (.int .i64 1)), none⟩,
             ⟨(some 8), .mv (.t 21), none⟩])))))))
     (.seq
      (.reg none [⟨(some 22), .mv (.t 3), none⟩,
        ⟨(some 23), .bin .leq (.t 22) (.c (.int .i64 16)), none⟩,
        ⟨(some 2), .mv (.t 23), none⟩])
      .ret)))) }
theorem f79P : prepF C Try.f79 = some f79A := by kernel_rfl

/-- congou/congouref06.lines -/
def f81A : AFunc :=
{ nargs := 2, res := [.t 4], body :=
  (.seq
   (.reg none [⟨(some 4), .mv (.c .nils), none⟩])
   (.seq
    (.seq
     (.reg none [⟨(some 9), .mv (.t 1), none⟩,
       ⟨(some 10), .len (.t 9), none⟩,
       ⟨(some 11), .bin .eql (.t 10) (.c (.int .i64 0)), none⟩])
     (.cond (.t 11)
      (.seq
       (.seq
        (.reg none [⟨(some 12), .mv (.t 0), none⟩,
          ⟨(some 13), .bin .eql (.t 12) (.c (.int .i64 0)), none⟩])
        (.cond (.t 13)
         (.seq
          (.reg none [⟨(some 14), .bslice [.nils] 1 1 [(0, (.c .nils))], none⟩,
            ⟨(some 4), .mv (.t 14), none⟩])
          .ret)
         .skip))
       (.seq
        (.reg none [⟨(some 4), .mv (.c .nils), none⟩])
        .ret))
      .skip))
    (.seq
     (.reg none [⟨(some 5), .mv (.c .nils), none⟩])
     (.seq
      (.seq
       (.reg none [⟨(some 6), .mv (.c (.int .i64 0)), none⟩])
       (.block 0
        (.loop
         (.seq
          (.seq
           (.reg none [⟨(some 15), .mv (.t 6), none⟩,
             ⟨(some 16), .mv (.t 0), none⟩,
             ⟨(some 17), .mv (.t 1), none⟩,
             ⟨(some 18), .iaddr 1 (.t 17) (.c (.int .i64 0)), none⟩,
             ⟨(some 19), .load none (.t 18), none⟩,
             ⟨(some 20), .mn [(.t 16), (.t 19)], none⟩,
             ⟨(some 21), .bin .leq (.t 15) (.t 20), none⟩])
           (.cond (.t 21)
            .skip
            (.exit 0)))
          (.seq
           (.block 1
            (.seq
             (.reg none [⟨(some 24), .mv (.t 0), none⟩,
               ⟨(some 25), .mv (.t 6), none⟩,
               ⟨(some 26), .bin .sub (.t 24) (.t 25), none⟩,
               ⟨(some 27), .mv (.t 1), none⟩,
               ⟨(some 28), .slice 1 (.t 27) (some (.c (.int .i64 1))) none none, none⟩,
               ⟨(some 29), .call 81 [(.t 26), (.t 28)], none⟩,
               ⟨(some 30), .len (.t 29), none⟩,
               ⟨(some 31), .mv (.c (.int .i64 0)), none⟩])
             (.block 2
              (.loop
               (.seq
                (.reg none [⟨(some 32), .bin .lss (.t 31) (.t 30), none⟩])
                (.seq
                 (.cond (.t 32)
                  .skip
                  (.exit 2))
                 (.seq
                  (.block 3
                   (.seq
                    (.reg none [⟨(some 33), .iaddr 1 (.t 29) (.t 31), none⟩,
                      ⟨(some 34), .load none (.t 33), none⟩,
                      ⟨(some 8), .mv (.t 34), none⟩])
                    (.reg none [⟨(some 35), .mv (.t 5), none⟩,
                      ⟨(some 36), .mv (.t 6), none⟩,
                      ⟨(some 37), .bslice [(.int .i64 0)] 1 1 [(0, (.t 36))], none⟩,
                      ⟨(some 38), .mv (.t 8), none⟩,
                      ⟨(some 39), .append 1 8 (.t 37) (.t 38), none⟩,
                      ⟨(some 40), .bslice [.nils] 1 1 [(0, (.t 39))], none⟩,
                      ⟨(some 41), .append 1 24 (.t 35) (.t 40), none⟩,
                      ⟨(some 5), .mv (.t 41), none⟩])))
                  (.reg none [⟨(some 42), .bin .add (.t 31) (.c (.int .i64 1)), none⟩,
                    ⟨(some 31), .mv (.t 42), none⟩]))))))))
           (.reg none [⟨(some 22), .mv (.t 6), none⟩,
             ⟨(some 23), .bin .add (.t 22) (.c (.int .i64 1)), none⟩,
             ⟨(some 6), .mv (.t 23), none⟩]))))))
      (.seq
       (.reg none [⟨(some 43), .mv (.t 5), none⟩,
         ⟨(some 4), .mv (.t 43), none⟩])
       .ret))))) }
theorem f81P : prepF C Try.f81 = some f81A := by kernel_rfl

/-- (congou/counts.table).family -/
def f82A : AFunc :=
{ nargs := 1, res := [.c 2 (some 2)], body :=
  (.seq
   (.reg none [⟨(some 2), .alloc [.nils, .nils], none⟩])
   (.seq
    (.reg none [⟨(some 6), .mv (.t 0), none⟩,
      ⟨(some 7), .call 71 [(.t 6)], none⟩,
      ⟨(some 5), .mv (.t 7), none⟩,
      ⟨(some 8), .extr (.t 5) 0, none⟩,
      ⟨(some 9), .extr (.t 5) 1, none⟩,
      ⟨(some 3), .mv (.t 8), none⟩,
      ⟨(some 4), .mv (.t 9), none⟩])
    (.seq
     (.reg none [⟨(some 10), .mv (.t 3), none⟩,
       ⟨(some 11), .mv (.t 4), none⟩,
       ⟨(some 12), .build [.nils, .nils] [(0, 1, (.t 10)), (1, 1, (.t 11))], none⟩,
       ⟨none, .store 2 (.t 2) (.t 12), none⟩])
     .ret))) }
theorem f82P : prepF C Try.f82 = some f82A := by kernel_rfl

/-- (congou/counts.table).clone -/
def f84A : AFunc :=
{ nargs := 1, res := [.t 2], body :=
  (.seq
   (.reg none [⟨(some 2), .mv (.c .nils), none⟩])
   (.seq
    (.reg none [⟨(some 3), .mv (.c .nils), none⟩])
    (.seq
     (.seq
      (.reg none [⟨(some 6), .mv (.t 0), none⟩,
        ⟨(some 7), .len (.t 6), none⟩,
        ⟨(some 8), .mv (.c (.int .i64 0)), none⟩])
      (.block 0
       (.loop
        (.seq
         (.reg none [⟨(some 9), .bin .lss (.t 8) (.t 7), none⟩])
         (.seq
          (.cond (.t 9)
           .skip
           (.exit 0))
          (.seq
           (.block 1
            (.seq
             (.reg none [⟨(some 10), .iaddr 1 (.t 6) (.t 8), none⟩,
               ⟨(some 11), .load none (.t 10), none⟩,
               ⟨(some 5), .mv (.t 11), none⟩])
             (.reg none [⟨(some 12), .mv (.t 3), none⟩,
               ⟨(some 13), .mv (.t 5), none⟩,
               ⟨(some 14), .call 56 [(.t 13)], none⟩,
               ⟨(some 15), .bslice [.nils] 1 1 [(0, (.t 14))], none⟩,
               ⟨(some 16), .append 1 24 (.t 12) (.t 15), none⟩,
               ⟨(some 3), .mv (.t 16), none⟩])))
           (.reg none [⟨(some 17), .bin .add (.t 8) (.c (.int .i64 1)), none⟩,
             ⟨(some 8), .mv (.t 17), none⟩])))))))
     (.seq
      (.reg none [⟨(some 18), .mv (.t 3), none⟩,
        ⟨(some 2), .mv (.t 18), none⟩])
      .ret)))) }
theorem f84P : prepF C Try.f84 = some f84A := by kernel_rfl

/-- cmp.Compare[int] -/
def f85A : AFunc :=
{ nargs := 2, res := [.t 4], body :=
  (.seq
   (.reg none [⟨(some 4), .mv (.c (.int .i64 0)), none⟩])
   (.seq
    (.reg none [⟨(some 7), .mv (.t 0), none⟩,
      ⟨(some 8), .call 102 [(.t 7)], none⟩,
      ⟨(some 5), .mv (.t 8), none⟩])
    (.seq
     (.reg none [⟨(some 9), .mv (.t 1), none⟩,
       ⟨(some 10), .call 102 [(.t 9)], none⟩,
       ⟨(some 6), .mv (.t 10), none⟩])
     (.seq
      (.seq
       (.reg none [⟨(some 11), .mv (.t 5), none⟩])
       (.cond (.t 11)
        (.seq
         (.seq
          (.reg none [⟨(some 12), .mv (.t 6), none⟩])
          (.cond (.t 12)
           (.seq
            (.reg none [⟨(some 4), .mv (.c (.int .i64 0)), none⟩])
            .ret)
           .skip))
         (.seq
          (.reg none [⟨(some 4), .mv (.c (.int .i64 (-1))), none⟩])
          .ret))
        .skip))
      (.seq
       (.seq
        (.reg none [⟨(some 13), .mv (.t 6), none⟩])
        (.cond (.t 13)
         (.seq
          (.reg none [⟨(some 4), .mv (.c (.int .i64 1)), none⟩])
          .ret)
         .skip))
       (.seq
        (.seq
         (.reg none [⟨(some 14), .mv (.t 0), none⟩,
           ⟨(some 15), .mv (.t 1), none⟩,
           ⟨(some 16), .bin .lss (.t 14) (.t 15), none⟩])
         (.cond (.t 16)
          (.seq
           (.reg none [⟨(some 4), .mv (.c (.int .i64 (-1))), none⟩])
           .ret)
          .skip))
        (.seq
         (.seq
          (.reg none [⟨(some 17), .mv (.t 0), none⟩,
            ⟨(some 18), .mv (.t 1), none⟩,
            ⟨(some 19), .bin .gtr (.t 17) (.t 18), none⟩])
          (.cond (.t 19)
           (.seq
            (.reg none [⟨(some 4), .mv (.c (.int .i64 1)), none⟩])
            .ret)
           .skip))
         (.seq
          (.reg none [⟨(some 4), .mv (.c (.int .i64 0)), none⟩])
          .ret)))))))) }
theorem f85P : prepF C Try.f85 = some f85A := by kernel_rfl

/-- congou/counts.both -/
def f90A : AFunc :=
{ nargs := 2, res := [.t 4], body :=
  (.seq
   (.reg none [⟨(some 4), .mv (.c (.b false)), none⟩])
   (.seq
    (.reg none [⟨(some 7), .mv (.t 0), none⟩,
      ⟨(some 8), .call 82 [(.t 7)], none⟩,
      ⟨(some 9), .mv (.t 1), none⟩,
      ⟨(some 10), .call 82 [(.t 9)], none⟩,
      ⟨(some 5), .alloc [.nils, .nils], none⟩,
      ⟨(some 6), .alloc [.nils, .nils], none⟩,
      ⟨none, .store 2 (.t 5) (.t 8), none⟩,
      ⟨none, .store 2 (.t 6) (.t 10), none⟩])
    (.seq
     (.reg none [⟨(some 11), .faddr 0 (.t 5), none⟩,
       ⟨(some 12), .load none (.t 11), none⟩,
       ⟨(some 13), .faddr 0 (.t 6), none⟩,
       ⟨(some 14), .load none (.t 13), none⟩,
       ⟨(some 15), .call 25 [(.t 12), (.t 14)], none⟩,
       ⟨(some 16), .mv (.t 15), none⟩,
       ⟨(some 17), .faddr 1 (.t 5), some (16, true)⟩,
       ⟨(some 18), .load none (.t 17), some (16, true)⟩,
       ⟨(some 19), .faddr 1 (.t 6), some (16, true)⟩,
       ⟨(some 20), .load none (.t 19), some (16, true)⟩,
       ⟨(some 21), .call 25 [(.t 18), (.t 20)], some (16, true)⟩,
       ⟨(some 22), .pick (.t 16) (.t 21) (.c (.b false)), none⟩,
       ⟨(some 4), .mv (.t 22), none⟩])
     .ret))) }
theorem f90P : prepF C Try.f90 = some f90A := by kernel_rfl

/-- (congou/counts.table).key -/
def f91A : AFunc :=
{ nargs := 1, res := [.c 2 (some 9)], body :=
  (.seq
   (.reg none [⟨(some 2), .alloc [(.int .i64 0), (.int .i64 0), (.int .i64 0), (.int .i64 0), (.int .i64 0), (.int .i64 0), (.int .i64 0), (.int .i64 0), (.int .i64 0)], none⟩])
   (.seq
    (.reg none [⟨(some 3), .alloc [(.int .i64 0), (.int .i64 0), (.int .i64 0), (.int .i64 0), (.int .i64 0), (.int .i64 0), (.int .i64 0), (.int .i64 0), (.int .i64 0)], none⟩])
    (.seq
     (.seq
      (.reg none [⟨(some 6), .mv (.t 0), none⟩,
        ⟨(some 7), .len (.t 6), none⟩,
        ⟨(some 8), .mv (.c (.int .i64 0)), none⟩])
      (.block 0
       (.loop
        (.seq
         (.reg none [⟨(some 9), .bin .lss (.t 8) (.t 7), none⟩])
         (.seq
          (.cond (.t 9)
           .skip
           (.exit 0))
          (.seq
           (.block 1
            (.seq
             (.reg none [⟨(some 10), .mv (.t 8), none⟩,
               ⟨(some 11), .iaddr 1 (.t 6) (.t 8), none⟩,
               ⟨(some 12), .load none (.t 11), none⟩,
               ⟨(some 4), .mv (.t 10), none⟩,
               ⟨(some 5), .mv (.t 12), none⟩])
             (.reg none [⟨(some 13), .mv (.t 4), none⟩,
               ⟨(some 14), .bin .mul (.c (.int .i64 3)) (.t 13), none⟩,
               ⟨(some 15), .slarr 9 1 (.t 3) (some (.t 14)) none, none⟩,
               ⟨(some 16), .mv (.t 5), none⟩,
               ⟨(some 17), .copy 1 (.t 15) (.t 16), none⟩])))
           (.reg none [⟨(some 18), .bin .add (.t 8) (.c (.int .i64 1)), none⟩,
             ⟨(some 8), .mv (.t 18), none⟩])))))))
     (.seq
      (.reg none [⟨(some 19), .load (some 9) (.t 3), none⟩,
        ⟨none, .store 9 (.t 2) (.t 19), none⟩])
      .ret)))) }
theorem f91P : prepF C Try.f91 = some f91A := by kernel_rfl

/-- congou/counts.compare -/
def f92A : AFunc :=
{ nargs := 2, res := [.t 4], body :=
  (.seq
   (.reg none [⟨(some 4), .mv (.c (.int .i64 0)), none⟩])
   (.seq
    (.reg none [⟨(some 5), .mv (.t 0), none⟩,
      ⟨(some 6), .mv (.t 1), none⟩,
      ⟨(some 7), .call 57 [(.t 5), (.t 6), (.c (.fn 59 [] []))], none⟩,
      ⟨(some 4), .mv (.t 7), none⟩])
    .ret)) }
theorem f92P : prepF C Try.f92 = some f92A := by kernel_rfl

/-- (congou/counts.table).near -/
def f93A : AFunc :=
{ nargs := 1, res := [.t 2], body :=
  (.seq
   (.reg none [⟨(some 2), .mv (.c .nils), none⟩])
   (.seq
    (.reg none [⟨(some 3), .mv (.c .nils), none⟩])
    (.seq
     (.seq
      (.reg none [⟨(some 10), .mv (.t 0), none⟩,
        ⟨(some 11), .len (.t 10), none⟩,
        ⟨(some 12), .mv (.c (.int .i64 0)), none⟩])
      (.block 0
       (.loop
        (.seq
         (.reg none [⟨(some 13), .bin .lss (.t 12) (.t 11), none⟩])
         (.seq
          (.cond (.t 13)
           .skip
           (.exit 0))
          (.seq
           (.block 1
            (.seq
             (.reg none [⟨(some 14), .mv (.t 12), none⟩,
               ⟨(some 4), .mv (.t 14), none⟩])
             (.seq
              (.reg none [⟨(some 15), .mv (.t 0), none⟩,
                ⟨(some 16), .len (.t 15), none⟩,
                ⟨(some 17), .mv (.c (.int .i64 0)), none⟩])
              (.block 2
               (.loop
                (.seq
                 (.reg none [⟨(some 18), .bin .lss (.t 17) (.t 16), none⟩])
                 (.seq
                  (.cond (.t 18)
                   .skip
                   (.exit 2))
                  (.seq
                   (.block 3
                    (.seq
                     (.reg none [⟨(some 19), .mv (.t 17), none⟩,
                       ⟨(some 5), .mv (.t 19), none⟩])
                     (.seq
                      (.reg none [⟨(some 20), .mv (.t 0), none⟩,
                        ⟨(some 21), .iaddr 1 (.t 20) (.c (.int .i64 0)), none⟩,
                        ⟨(some 22), .load none (.t 21), none⟩,
                        ⟨(some 23), .len (.t 22), none⟩,
                        ⟨(some 24), .mv (.c (.int .i64 0)), none⟩])
                      (.block 4
                       (.loop
                        (.seq
                         (.reg none [⟨(some 25), .bin .lss (.t 24) (.t 23), none⟩])
                         (.seq
                          (.cond (.t 25)
                           .skip
                           (.exit 4))
                          (.seq
                           (.block 5
                            (.seq
                             (.reg none [⟨(some 26), .mv (.t 24), none⟩,
                               ⟨(some 6), .mv (.t 26), none⟩])
                             (.seq
                              (.reg none [⟨(some 27), .mv (.t 0), none⟩,
                                ⟨(some 28), .iaddr 1 (.t 27) (.c (.int .i64 0)), none⟩,
                                ⟨(some 29), .load none (.t 28), none⟩,
                                ⟨(some 30), .len (.t 29), none⟩,
                                ⟨(some 31), .mv (.c (.int .i64 0)), none⟩])
                              (.block 6
                               (.loop
                                (.seq
                                 (.reg none [⟨(some 32), .bin .lss (.t 31) (.t 30), none⟩])
                                 (.seq
                                  (.cond (.t 32)
                                   .skip
                                   (.exit 6))
                                  (.seq
                                   (.block 7
                                    (.seq
                                     (.reg none [⟨(some 33), .mv (.t 31), none⟩,
                                       ⟨(some 7), .mv (.t 33), none⟩])
                                     (.seq
                                      (.seq
                                       (.reg none [⟨(some 34), .mv (.t 4), none⟩,
                                         ⟨(some 35), .mv (.t 5), none⟩,
                                         ⟨(some 36), .bin .eql (.t 34) (.t 35), none⟩,
                                         ⟨(some 37), .mv (.t 36), none⟩,
                                         ⟨(some 38), .mv (.t 6), some (37, false)⟩,
                                         ⟨(some 39), .mv (.t 7), some (37, false)⟩,
                                         ⟨(some 40), .bin .eql (.t 38) (.t 39), some (37, false)⟩,
                                         ⟨(some 41), .pick (.t 37) (.c (.b true)) (.t 40), none⟩])
                                       (.cond (.t 41)
                                        (.exit 7)
                                        .skip))
                                      (.seq
                                       (.reg none [⟨(some 43), .mv (.t 0), none⟩,
                                         ⟨(some 44), .mv (.t 4), none⟩,
                                         ⟨(some 45), .mv (.t 5), none⟩,
                                         ⟨(some 46), .mv (.t 6), none⟩,
                                         ⟨(some 47), .mv (.t 7), none⟩,
                                         ⟨(some 48), .call 74 [(.t 43), (.t 44), (.t 45), (.t 46), (.t 47)], none⟩,
                                         ⟨(some 42), .mv (.t 48), none⟩,
                                         ⟨(some 49), .extr (.t 42) 0, none⟩,
                                         ⟨(some 50), .extr (.t 42) 1, none⟩,
                                         ⟨(some 8), .mv (.t 49), none⟩,
                                         ⟨(some 9), .mv (.t 50), none⟩])
                                       (.seq
                                        (.reg none [⟨(some 51), .mv (.t 9), none⟩])
                                        (.cond (.t 51)
                                         (.reg none [⟨(some 52), .mv (.t 3), none⟩,
                                           ⟨(some 53), .mv (.t 8), none⟩,
                                           ⟨(some 54), .bslice [.nils] 1 1 [(0, (.t 53))], none⟩,
                                           ⟨(some 55), .append 1 24 (.t 52) (.t 54), none⟩,
                                           ⟨(some 3), .mv (.t 55), none⟩])
                                         .skip))))))
                                   (.reg none [⟨(some 56), .bin .add (.t 31) (.c (.int .i64 1)), none⟩,
                                     ⟨(some 31), .mv (.t 56), none⟩])))))))))
                           (.reg none [⟨(some 57), .bin .add (.t 24) (.c (.int .i64 1)), none⟩,
                             ⟨(some 24), .mv (.t 57), none⟩])))))))))
                   (.reg none [⟨(some 58), .bin .add (.t 17) (.c (.int .i64 1)), none⟩,
                     ⟨(some 17), .mv (.t 58), none⟩])))))))))
           (.reg none [⟨(some 59), .bin .add (.t 12) (.c (.int .i64 1)), none⟩,
             ⟨(some 12), .mv (.t 59), none⟩])))))))
     (.seq
      (.reg none [⟨(some 60), .mv (.t 3), none⟩,
        ⟨(some 2), .mv (.t 60), none⟩])
      .ret)))) }
theorem f93P : prepF C Try.f93 = some f93A := by kernel_rfl

/-- slices.ContainsFunc[[]congou/counts.table,congou/counts.table] -/
def f94A : AFunc :=
{ nargs := 2, res := [.t 4], body :=
  (.seq
   (.reg none [⟨(some 4), .mv (.c (.b false)), none⟩])
   (.seq
    (.reg none [⟨(some 5), .mv (.t 0), none⟩,
      ⟨(some 6), .mv (.t 1), none⟩,
      ⟨(some 7), .call 103 [(.t 5), (.t 6)], none⟩,
      ⟨(some 8), .bin .geq (.t 7) (.c (.int .i64 0)), none⟩,
      ⟨(some 4), .mv (.t 8), none⟩])
    .ret)) }
theorem f94P : prepF C Try.f94 = some f94A := by kernel_rfl

/-- congou/counts.CheckPath$1 -/
def f95A : AFunc :=
{ nargs := 2, res := [.t 3], body :=
  (.seq
   (.reg none [⟨(some 3), .mv (.c (.b false)), none⟩])
   (.seq
    (.reg none [⟨(some 4), .load none (.t 1), none⟩,
      ⟨(some 5), .mv (.t 0), none⟩,
      ⟨(some 6), .call 92 [(.t 4), (.t 5)], none⟩,
      ⟨(some 7), .bin .eql (.t 6) (.c (.int .i64 0)), none⟩,
      ⟨(some 3), .mv (.t 7), none⟩])
    .ret)) }
theorem f95P : prepF C Try.f95 = some f95A := by kernel_rfl

/-- congou/congouref06.in -/
def f96A : AFunc :=
{ nargs := 2, res := [.t 4], body :=
  (.seq
   (.reg none [⟨(some 4), .mv (.c (.b false)), none⟩])
   (.seq
    (.seq
     (.reg none [⟨(some 7), .mv (.t 0), none⟩,
       ⟨(some 8), .len (.t 7), none⟩,
       ⟨(some 9), .mv (.c (.int .i64 0)), none⟩])
     (.block 0
      (.loop
       (.seq
        (.reg none [⟨(some 10), .bin .lss (.t 9) (.t 8), none⟩])
        (.seq
         (.cond (.t 10)
          .skip
          (.exit 0))
         (.seq
          (.block 1
           (.seq
            (.reg none [⟨(some 11), .iaddr 1 (.t 7) (.t 9), none⟩,
              ⟨(some 12), .load none (.t 11), none⟩,
              ⟨(some 6), .mv (.t 12), none⟩])
            (.seq
             (.reg none [⟨(some 13), .mv (.t 6), none⟩,
               ⟨(some 14), .mv (.t 1), none⟩,
               ⟨(some 15), .call 26 [(.t 13), (.t 14)], none⟩])
             (.cond (.t 15)
              (.seq
               (.reg none [⟨(some 4), .mv (.c (.b true)), none⟩])
               .ret)
              .skip))))
          (.reg none [⟨(some 16), .bin .add (.t 9) (.c (.int .i64 1)), none⟩,
            ⟨(some 9), .mv (.t 16), none⟩])))))))
    (.seq
     (.reg none [⟨(some 4), .mv (.c (.b false)), none⟩])
     .ret))) }
theorem f96P : prepF C Try.f96 = some f96A := by kernel_rfl

/-- congou/congouref06.next -/
def f97A : AFunc :=
{ nargs := 1, res := [.t 2], body :=
  (.seq
   (.reg none [⟨(some 2), .mv (.c .nils), none⟩])
   (.seq
    (.reg none [⟨(some 3), .mv (.c .nils), none⟩])
    (.seq
     (.seq
      (.reg none [⟨(some 10), .mv (.t 0), none⟩,
        ⟨(some 11), .len (.t 10), none⟩,
        ⟨(some 12), .mv (.c (.int .i64 0)), none⟩])
      (.block 0
       (.loop
        (.seq
         (.reg none [⟨(some 13), .bin .lss (.t 12) (.t 11), none⟩])
         (.seq
          (.cond (.t 13)
           .skip
           (.exit 0))
          (.seq
           (.block 1
            (.seq
             (.reg none [⟨(some 14), .mv (.t 12), none⟩,
               ⟨(some 4), .mv (.t 14), none⟩])
             (.seq
              (.reg none [⟨(some 15), .mv (.t 0), none⟩,
                ⟨(some 16), .len (.t 15), none⟩,
                ⟨(some 17), .mv (.c (.int .i64 0)), none⟩])
              (.block 2
               (.loop
                (.seq
                 (.reg none [⟨(some 18), .bin .lss (.t 17) (.t 16), none⟩])
                 (.seq
                  (.cond (.t 18)
                   .skip
                   (.exit 2))
                  (.seq
                   (.block 3
                    (.seq
                     (.reg none [⟨(some 19), .mv (.t 17), none⟩,
                       ⟨(some 5), .mv (.t 19), none⟩])
                     (.seq
                      (.reg none [⟨(some 20), .mv (.t 0), none⟩,
                        ⟨(some 21), .iaddr 1 (.t 20) (.c (.int .i64 0)), none⟩,
                        ⟨(some 22), .load none (.t 21), none⟩,
                        ⟨(some 23), .len (.t 22), none⟩,
                        ⟨(some 24), .mv (.c (.int .i64 0)), none⟩])
                      (.block 4
                       (.loop
                        (.seq
                         (.reg none [⟨(some 25), .bin .lss (.t 24) (.t 23), none⟩])
                         (.seq
                          (.cond (.t 25)
                           .skip
                           (.exit 4))
                          (.seq
                           (.block 5
                            (.seq
                             (.reg none [⟨(some 26), .mv (.t 24), none⟩,
                               ⟨(some 6), .mv (.t 26), none⟩])
                             (.seq
                              (.reg none [⟨(some 27), .mv (.t 0), none⟩,
                                ⟨(some 28), .iaddr 1 (.t 27) (.c (.int .i64 0)), none⟩,
                                ⟨(some 29), .load none (.t 28), none⟩,
                                ⟨(some 30), .len (.t 29), none⟩,
                                ⟨(some 31), .mv (.c (.int .i64 0)), none⟩])
                              (.block 6
                               (.loop
                                (.seq
                                 (.reg none [⟨(some 32), .bin .lss (.t 31) (.t 30), none⟩])
                                 (.seq
                                  (.cond (.t 32)
                                   .skip
                                   (.exit 6))
                                  (.seq
                                   (.block 7
                                    (.seq
                                     (.reg none [⟨(some 33), .mv (.t 31), none⟩,
                                       ⟨(some 7), .mv (.t 33), none⟩])
                                     (.seq
                                      (.reg none [⟨(some 34), .mv (.t 0), none⟩,
                                        ⟨(some 35), .mv (.t 4), none⟩,
                                        ⟨(some 36), .mv (.t 5), none⟩,
                                        ⟨(some 37), .mv (.t 6), none⟩,
                                        ⟨(some 38), .mv (.t 7), none⟩,
                                        ⟨(some 39), .call 33 [(.t 34), (.t 35), (.t 36), (.t 37), (.t 38)], none⟩])
                                      (.cond (.t 39)
                                       (.seq
                                        (.reg none [⟨(some 41), .mv (.t 0), none⟩,
                                          ⟨(some 42), .mv (.t 4), none⟩,
                                          ⟨(some 43), .mv (.t 5), none⟩,
                                          ⟨(some 44), .mv (.t 6), none⟩,
                                          ⟨(some 45), .mv (.t 7), none⟩,
                                          ⟨(some 46), .call 34 [(.t 41), (.t 42), (.t 43), (.t 44), (.t 45)], none⟩,
                                          ⟨(some 40), .mv (.t 46), none⟩,
                                          ⟨(some 47), .extr (.t 40) 0, none⟩,
                                          ⟨(some 48), .extr (.t 40) 1, none⟩,
                                          ⟨(some 8), .mv (.t 47), none⟩,
                                          ⟨(some 9), .mv (.t 48), none⟩])
                                        (.seq
                                         (.reg none [⟨(some 49), .mv (.t 9), none⟩,
                                           ⟨(some 50), .bin .eql (.t 49) (.c (.int .i64 0)), none⟩])
                                         (.cond (.t 50)
                                          (.reg none [⟨(some 51), .mv (.t 3), none⟩,
                                            ⟨(some 52), .mv (.t 8), none⟩,
                                            ⟨(some 53), .bslice [.nils] 1 1 [(0, (.t 52))], none⟩,
                                            ⟨(some 54), .append 1 24 (.t 51) (.t 53), none⟩,
                                            ⟨(some 3), .mv (.t 54), none⟩])
                                          .skip)))
                                       .skip))))
                                   (.reg none [⟨(some 55), .bin .add (.t 31) (.c (.int .i64 1)), none⟩,
                                     ⟨(some 31), .mv (.t 55), none⟩])))))))))
                           (.reg none [⟨(some 56), .bin .add (.t 24) (.c (.int .i64 1)), none⟩,
                             ⟨(some 24), .mv (.t 56), none⟩])))))))))
                   (.reg none [⟨(some 57), .bin .add (.t 17) (.c (.int .i64 1)), none⟩,
                     ⟨(some 17), .mv (.t 57), none⟩])))))))))
           (.reg none [⟨(some 58), .bin .add (.t 12) (.c (.int .i64 1)), none⟩,
             ⟨(some 12), .mv (.t 58), none⟩])))))))
     (.seq
      (.reg none [⟨(some 59), .mv (.t 3), none⟩,
        ⟨(some 2), .mv (.t 59), none⟩])
      .ret)))) }
theorem f97P : prepF C Try.f97 = some f97A := by kernel_rfl

/-- cmp.isNaN[int] -/
def f102A : AFunc :=
{ nargs := 1, res := [.t 2], body :=
  (.seq
   (.reg none [⟨(some 2), .mv (.c (.b false)), none⟩])
   (.seq
    (.reg none [⟨(some 3), .mv (.t 0), none⟩,
      ⟨(some 4), .mv (.t 0), none⟩,
      ⟨(some 5), .bin .neq (.t 3) (.t 4), none⟩,
      ⟨(some 2), .mv (.t 5), none⟩])
    .ret)) }
theorem f102P : prepF C Try.f102 = some f102A := by kernel_rfl

/-- slices.IndexFunc[[]congou/counts.table,congou/counts.table] -/
def f103A : AFunc :=
{ nargs := 2, res := [.t 4], body :=
  (.seq
   (.reg none [⟨(some 4), .mv (.c (.int .i64 0)), none⟩])
   (.seq
    (.seq
     (.reg none [⟨(some 6), .mv (.t 0), none⟩,
       ⟨(some 7), .len (.t 6), none⟩,
       ⟨(some 8), .mv (.c (.int .i64 0)), none⟩])
     (.block 0
      (.loop
       (.seq
        (.reg none [⟨(some 9), .bin .lss (.t 8) (.t 7), none⟩])
        (.seq
         (.cond (.t 9)
          .skip
          (.exit 0))
         (.seq
          (.block 1
           (.seq
            (.reg none [⟨(some 10), .mv (.t 8), none⟩,
              ⟨(some 5), .mv (.t 10), none⟩])
            (.seq
             (.reg none [⟨(some 11), .mv (.t 1), none⟩,
               ⟨(some 12), .mv (.t 0), none⟩,
               ⟨(some 13), .mv (.t 5), none⟩,
               ⟨(some 14), .iaddr 1 (.t 12) (.t 13), none⟩,
               ⟨(some 15), .load none (.t 14), none⟩,
               ⟨(some 16), .callv (.t 11) [(.t 15)], none⟩])
             (.cond (.t 16)
              (.seq
               (.reg none [⟨(some 17), .mv (.t 5), none⟩,
                 ⟨(some 4), .mv (.t 17), none⟩])
               .ret)
              .skip))))
          (.reg none [⟨(some 18), .bin .add (.t 8) (.c (.int .i64 1)), none⟩,
            ⟨(some 8), .mv (.t 18), none⟩])))))))
    (.seq
     (.reg none [⟨(some 4), .mv (.c (.int .i64 (-1))), none⟩])
     .ret))) }
theorem f103P : prepF C Try.f103 = some f103A := by kernel_rfl

end Go.Proofs.Ytflekaacffdakaa
