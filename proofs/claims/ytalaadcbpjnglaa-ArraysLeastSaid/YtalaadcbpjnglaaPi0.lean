/- The abstract forms of the functions that are needed, each checked against the translation. No condition. -/
import Derived.Test.YtalaadcbpjnglaaAm1
import Derived.Test.YtalaadcbpjnglaaProg
namespace Go.Proofs.Ytalaadcbpjnglaa
open Go Go.AM Go.Proofs

/-- the seat's program; the types whose comparison is taken; the functions that may write to what is older -/
def kd : Nat → Kd := fun f => if [79, 80, 81, 96, 97, 102].contains f then .wrt else if [25, 4, 10, 13, 27].contains f then .closed else .ro
noncomputable def C : Cfg := { P := Try.prog, eqT := fun _ => none, kd := kd }
/-- congou/congoulaw09.ArraysLeast -/
def f4A : AFunc :=
{ nargs := 1, res := [.t 2], body :=
  (.seq
   (.reg none [⟨(some 2), .mv (.c (.b false)), none⟩])
   (.seq
    (.reg none [⟨(some 8), .mv (.t 0), none⟩,
      ⟨(some 9), .call 27 [(.t 8)], none⟩,
      ⟨(some 7), .mv (.t 9), none⟩,
      ⟨(some 10), .extr (.t 7) 0, none⟩,
      ⟨(some 11), .extr (.t 7) 1, none⟩,
      ⟨(some 3), .mv (.t 10), none⟩,
      ⟨(some 4), .mv (.t 11), none⟩])
    (.seq
     (.reg none [⟨(some 13), .mv (.t 0), none⟩,
       ⟨(some 14), .call 28 [(.t 13)], none⟩,
       ⟨(some 12), .mv (.t 14), none⟩,
       ⟨(some 15), .extr (.t 12) 0, none⟩,
       ⟨(some 16), .extr (.t 12) 1, none⟩,
       ⟨(some 5), .alloc [(.int .i64 0), .nils], none⟩,
       ⟨none, .store 2 (.t 5) (.t 15), none⟩,
       ⟨(some 6), .mv (.t 16), none⟩])
     (.seq
      (.seq
       (.reg none [⟨(some 17), .mv (.t 0), none⟩,
         ⟨(some 18), .bin .lss (.t 17) (.c (.int .i64 2)), none⟩,
         ⟨(some 19), .mv (.t 18), none⟩,
         ⟨(some 20), .mv (.t 0), some (19, false)⟩,
         ⟨(some 21), .bin .gtr (.t 20) (.c (.int .i64 35)), some (19, false)⟩,
         ⟨(some 22), .pick (.t 19) (.c (.b true)) (.t 21), none⟩])
       (.cond (.t 22)
        (.seq
         (.reg none [⟨(some 23), .mv (.t 3), none⟩,
           ⟨(some 24), .bin .eql (.t 23) (.c (.int .i64 0)), none⟩,
           ⟨(some 25), .mv (.t 24), none⟩,
           ⟨(some 26), .load (some 2) (.t 5), some (25, true)⟩,
           ⟨(some 27), .call 23 [(.t 26)], some (25, true)⟩,
           ⟨(some 28), .pick (.t 25) (.t 27) (.c (.b false)), none⟩,
           ⟨(some 29), .mv (.t 28), none⟩,
           ⟨(some 30), .mv (.t 4), some (29, true)⟩,
           ⟨(some 31), .bin .eql (.t 30) (.c (.int .i64 2)), some (29, true)⟩,
           ⟨(some 32), .pick (.t 29) (.t 31) (.c (.b false)), none⟩,
           ⟨(some 33), .mv (.t 32), none⟩,
           ⟨(some 34), .mv (.t 6), some (33, true)⟩,
           ⟨(some 35), .bin .eql (.t 34) (.c (.int .i64 2)), some (33, true)⟩,
           ⟨(some 36), .pick (.t 33) (.t 35) (.c (.b false)), none⟩,
           ⟨(some 37), .mv (.t 36), none⟩,
           ⟨(some 38), .call 25 [], some (37, true)⟩,
           ⟨(some 39), .pick (.t 37) (.t 38) (.c (.b false)), none⟩,
           ⟨(some 2), .mv (.t 39), none⟩])
         .ret)
        .skip))
      (.seq
       (.seq
        (.reg none [⟨(some 40), .mv (.t 3), none⟩,
          ⟨(some 41), .mv (.t 0), none⟩,
          ⟨(some 42), .call 29 [(.t 41)], none⟩,
          ⟨(some 43), .bin .neq (.t 40) (.t 42), none⟩,
          ⟨(some 44), .mv (.t 43), none⟩,
          ⟨(some 45), .mv (.t 4), some (44, false)⟩,
          ⟨(some 46), .bin .neq (.t 45) (.c (.int .i64 0)), some (44, false)⟩,
          ⟨(some 47), .pick (.t 44) (.c (.b true)) (.t 46), none⟩,
          ⟨(some 48), .mv (.t 47), none⟩,
          ⟨(some 49), .call 25 [], some (48, false)⟩,
          ⟨(some 50), .un .not (.t 49), some (48, false)⟩,
          ⟨(some 51), .pick (.t 48) (.c (.b true)) (.t 50), none⟩])
        (.cond (.t 51)
         (.seq
          (.reg none [⟨(some 2), .mv (.c (.b false)), none⟩])
          .ret)
         .skip))
       (.seq
        (.seq
         (.reg none [⟨(some 52), .mv (.t 0), none⟩,
           ⟨(some 53), .bin .gtr (.t 52) (.c (.int .i64 8)), none⟩])
         (.cond (.t 53)
          (.seq
           (.reg none [⟨(some 54), .load (some 2) (.t 5), none⟩,
             ⟨(some 55), .call 23 [(.t 54)], none⟩,
             ⟨(some 56), .mv (.t 55), none⟩,
             ⟨(some 57), .mv (.t 6), some (56, true)⟩,
             ⟨(some 58), .bin .eql (.t 57) (.c (.int .i64 2)), some (56, true)⟩,
             ⟨(some 59), .pick (.t 56) (.t 58) (.c (.b false)), none⟩,
             ⟨(some 2), .mv (.t 59), none⟩])
           .ret)
          .skip))
        (.seq
         (.reg none [⟨(some 60), .load (some 2) (.t 5), none⟩,
           ⟨(some 61), .call 21 [(.t 60)], none⟩,
           ⟨(some 62), .mv (.t 0), none⟩,
           ⟨(some 63), .call 30 [(.t 62)], none⟩,
           ⟨(some 64), .call 20 [(.t 61), (.t 63)], none⟩,
           ⟨(some 65), .mv (.t 64), none⟩,
           ⟨(some 66), .mv (.t 6), some (65, true)⟩,
           ⟨(some 67), .bin .eql (.t 66) (.c (.int .i64 0)), some (65, true)⟩,
           ⟨(some 68), .pick (.t 65) (.t 67) (.c (.b false)), none⟩,
           ⟨(some 2), .mv (.t 68), none⟩])
         .ret))))))) }
theorem f4P : prepF C Try.f4 = some f4A := by kernel_rfl

/-- congou/congouref09.Same -/
def f20A : AFunc :=
{ nargs := 2, res := [.t 4], body :=
  (.seq
   (.reg none [⟨(some 2), .box (.t 0), none⟩,
     ⟨(some 3), .box (.t 1), none⟩,
     ⟨(some 4), .mv (.c (.b false)), none⟩])
   (.seq
    (.seq
     (.reg none [⟨(some 9), .faddr 0 (.t 2), none⟩,
       ⟨(some 10), .load none (.t 9), none⟩,
       ⟨(some 11), .faddr 0 (.t 3), none⟩,
       ⟨(some 12), .load none (.t 11), none⟩,
       ⟨(some 13), .bin .neq (.t 10) (.t 12), none⟩,
       ⟨(some 14), .mv (.t 13), none⟩,
       ⟨(some 15), .faddr 1 (.t 2), some (14, false)⟩,
       ⟨(some 16), .load none (.t 15), some (14, false)⟩,
       ⟨(some 17), .len (.t 16), some (14, false)⟩,
       ⟨(some 18), .faddr 1 (.t 3), some (14, false)⟩,
       ⟨(some 19), .load none (.t 18), some (14, false)⟩,
       ⟨(some 20), .len (.t 19), some (14, false)⟩,
       ⟨(some 21), .bin .neq (.t 17) (.t 20), some (14, false)⟩,
       ⟨(some 22), .pick (.t 14) (.c (.b true)) (.t 21), none⟩])
     (.cond (.t 22)
      (.seq
       (.reg none [⟨(some 4), .mv (.c (.b false)), none⟩])
       .ret)
      .skip))
    (.seq
     (.seq
      (.reg none [⟨(some 23), .faddr 1 (.t 2), none⟩,
        ⟨(some 24), .load none (.t 23), none⟩,
        ⟨(some 25), .len (.t 24), none⟩,
        ⟨(some 26), .mv (.c (.int .i64 0)), none⟩])
      (.block 0
       (.loop
        (.seq
         (.reg none [⟨(some 27), .bin .lss (.t 26) (.t 25), none⟩])
         (.seq
          (.cond (.t 27)
           .skip
           (.exit 0))
          (.seq
           (.block 1
            (.seq
             (.reg none [⟨(some 28), .mv (.t 26), none⟩,
               ⟨(some 29), .iaddr 1 (.t 24) (.t 26), none⟩,
               ⟨(some 30), .load none (.t 29), none⟩,
               ⟨(some 5), .mv (.t 28), none⟩,
               ⟨(some 6), .mv (.t 30), none⟩])
             (.seq
              (.seq
               (.reg none [⟨(some 31), .mv (.t 6), none⟩,
                 ⟨(some 32), .len (.t 31), none⟩,
                 ⟨(some 33), .faddr 1 (.t 3), none⟩,
                 ⟨(some 34), .load none (.t 33), none⟩,
                 ⟨(some 35), .mv (.t 5), none⟩,
                 ⟨(some 36), .iaddr 1 (.t 34) (.t 35), none⟩,
                 ⟨(some 37), .load none (.t 36), none⟩,
                 ⟨(some 38), .len (.t 37), none⟩,
                 ⟨(some 39), .bin .neq (.t 32) (.t 38), none⟩])
               (.cond (.t 39)
                (.seq
                 (.reg none [⟨(some 4), .mv (.c (.b false)), none⟩])
                 .ret)
                .skip))
              (.seq
               (.reg none [⟨(some 40), .mv (.t 6), none⟩,
                 ⟨(some 41), .len (.t 40), none⟩,
                 ⟨(some 42), .mv (.c (.int .i64 0)), none⟩])
               (.block 2
                (.loop
                 (.seq
                  (.reg none [⟨(some 43), .bin .lss (.t 42) (.t 41), none⟩])
                  (.seq
                   (.cond (.t 43)
                    .skip
                    (.exit 2))
                   (.seq
                    (.block 3
                     (.seq
                      (.reg none [⟨(some 44), .mv (.t 42), none⟩,
                        ⟨(some 45), .iaddr 1 (.t 40) (.t 42), none⟩,
                        ⟨(some 46), .load none (.t 45), none⟩,
                        ⟨(some 7), .mv (.t 44), none⟩,
                        ⟨(some 8), .mv (.t 46), none⟩])
                      (.seq
                       (.reg none [⟨(some 47), .mv (.t 8), none⟩,
                         ⟨(some 48), .faddr 1 (.t 3), none⟩,
                         ⟨(some 49), .load none (.t 48), none⟩,
                         ⟨(some 50), .mv (.t 5), none⟩,
                         ⟨(some 51), .iaddr 1 (.t 49) (.t 50), none⟩,
                         ⟨(some 52), .load none (.t 51), none⟩,
                         ⟨(some 53), .mv (.t 7), none⟩,
                         ⟨(some 54), .iaddr 1 (.t 52) (.t 53), none⟩,
                         ⟨(some 55), .load none (.t 54), none⟩,
                         ⟨(some 56), .bin .neq (.t 47) (.t 55), none⟩])
                       (.cond (.t 56)
                        (.seq
                         (.reg none [⟨(some 4), .mv (.c (.b false)), none⟩])
                         .ret)
                        .skip))))
                    (.reg none [⟨(some 57), .bin .add (.t 42) (.c (.int .i64 1)), none⟩,
                      ⟨(some 42), .mv (.t 57), none⟩]))))))))))
           (.reg none [⟨(some 58), .bin .add (.t 26) (.c (.int .i64 1)), none⟩,
             ⟨(some 26), .mv (.t 58), none⟩])))))))
     (.seq
      (.reg none [⟨(some 4), .mv (.c (.b true)), none⟩])
      .ret)))) }
theorem f20P : prepF C Try.f20 = some f20A := by kernel_rfl

/-- congou/congoulaw09.own -/
def f21A : AFunc :=
{ nargs := 1, res := [.c 2 (some 2)], body :=
  (.seq
   (.reg none [⟨(some 1), .box (.t 0), none⟩,
     ⟨(some 2), .alloc [(.int .i64 0), .nils], none⟩])
   (.seq
    (.reg none [⟨(some 3), .faddr 0 (.t 1), none⟩,
      ⟨(some 4), .load none (.t 3), none⟩,
      ⟨(some 5), .faddr 1 (.t 1), none⟩,
      ⟨(some 6), .load none (.t 5), none⟩,
      ⟨(some 7), .build [(.int .i64 0), .nils] [(0, 1, (.t 4)), (1, 1, (.t 6))], none⟩,
      ⟨none, .store 2 (.t 2) (.t 7), none⟩])
    .ret)) }
theorem f21P : prepF C Try.f21 = some f21A := by kernel_rfl

/-- congou/congoulaw09.nothing -/
def f23A : AFunc :=
{ nargs := 1, res := [.t 2], body :=
  (.seq
   (.reg none [⟨(some 1), .box (.t 0), none⟩,
     ⟨(some 2), .mv (.c (.b false)), none⟩])
   (.seq
    (.reg none [⟨(some 3), .faddr 0 (.t 1), none⟩,
      ⟨(some 4), .load none (.t 3), none⟩,
      ⟨(some 5), .bin .eql (.t 4) (.c (.int .i64 0)), none⟩,
      ⟨(some 6), .mv (.t 5), none⟩,
      ⟨(some 7), .faddr 1 (.t 1), some (6, true)⟩,
      ⟨(some 8), .load none (.t 7), some (6, true)⟩,
      ⟨(some 9), .len (.t 8), some (6, true)⟩,
      ⟨(some 10), .bin .eql (.t 9) (.c (.int .i64 0)), some (6, true)⟩,
      ⟨(some 11), .pick (.t 6) (.t 10) (.c (.b false)), none⟩,
      ⟨(some 2), .mv (.t 11), none⟩])
    .ret)) }
theorem f23P : prepF C Try.f23 = some f23A := by kernel_rfl

/-- congou/congoulaw09.awake -/
def f25A : AFunc :=
{ nargs := 0, res := [.t 0], body :=
  (.seq
   (.reg none [⟨(some 0), .mv (.c (.b false)), none⟩])
   (.seq
    (.reg none [⟨(some 4), .bslice [(.int .i64 0)] 3 1 [(0, (.c (.int .i64 0))), (1, (.c (.int .i64 0))), (2, (.c (.int .i64 1)))], none⟩,
      ⟨(some 5), .bslice [(.int .i64 0)] 3 1 [(0, (.c (.int .i64 1))), (1, (.c (.int .i64 0))), (2, (.c (.int .i64 0)))], none⟩,
      ⟨(some 6), .bslice [.nils] 2 1 [(0, (.t 4)), (1, (.t 5))], none⟩,
      ⟨(some 7), .build [(.int .i64 0), .nils] [(0, 1, (.c (.int .i64 2))), (1, 1, (.t 6))], none⟩,
      ⟨(some 8), .call 47 [(.t 7)], none⟩,
      ⟨(some 3), .mv (.t 8), none⟩,
      ⟨(some 9), .extr (.t 3) 0, none⟩,
      ⟨(some 10), .extr (.t 3) 1, none⟩,
      ⟨(some 1), .mv (.t 9), none⟩,
      ⟨(some 2), .mv (.t 10), none⟩])
    (.seq
     (.reg none [⟨(some 11), .mv (.t 1), none⟩,
       ⟨(some 12), .bin .eql (.t 11) (.c (.int .i64 2)), none⟩,
       ⟨(some 13), .mv (.t 12), none⟩,
       ⟨(some 14), .mv (.t 2), some (13, true)⟩,
       ⟨(some 15), .bin .eql (.t 14) (.c (.int .i64 0)), some (13, true)⟩,
       ⟨(some 16), .pick (.t 13) (.t 15) (.c (.b false)), none⟩,
       ⟨(some 0), .mv (.t 16), none⟩])
     .ret))) }
theorem f25P : prepF C Try.f25 = some f25A := by kernel_rfl

/-- congou/arrays.Least -/
def f27A : AFunc :=
{ nargs := 1, res := [.t 2, .t 3], body :=
  (.seq
   (.reg none [⟨(some 2), .mv (.c (.int .i64 0)), none⟩,
     ⟨(some 3), .mv (.c (.int .i64 0)), none⟩])
   (.seq
    (.seq
     (.reg none [⟨(some 4), .mv (.t 0), none⟩,
       ⟨(some 5), .bin .lss (.t 4) (.c (.int .i64 2)), none⟩,
       ⟨(some 6), .mv (.t 5), none⟩,
       ⟨(some 7), .mv (.t 0), some (6, false)⟩,
       ⟨(some 8), .bin .gtr (.t 7) (.c (.int .i64 35)), some (6, false)⟩,
       ⟨(some 9), .pick (.t 6) (.c (.b true)) (.t 8), none⟩])
     (.cond (.t 9)
      (.seq
       (.reg none [⟨(some 2), .mv (.c (.int .i64 0)), none⟩,
         ⟨(some 3), .mv (.c (.int .i64 2)), none⟩])
       .ret)
      .skip))
    (.seq
     (.reg none [⟨(some 10), .mv (.t 0), none⟩,
       ⟨(some 11), .call 71 [(.t 10)], none⟩,
       ⟨(some 2), .mv (.t 11), none⟩,
       ⟨(some 3), .mv (.c (.int .i64 0)), none⟩])
     .ret))) }
theorem f27P : prepF C Try.f27 = some f27A := by kernel_rfl

/-- congou/arrays.Make -/
def f28A : AFunc :=
{ nargs := 1, res := [.c 2 (some 2), .t 3], body :=
  (.seq
   (.reg none [⟨(some 1), .box (.t 0), none⟩,
     ⟨(some 2), .alloc [(.int .i64 0), .nils], none⟩,
     ⟨(some 3), .mv (.c (.int .i64 0)), none⟩])
   (.seq
    (.seq
     (.reg none [⟨(some 11), .load none (.t 1), none⟩,
       ⟨(some 12), .bin .lss (.t 11) (.c (.int .i64 2)), none⟩,
       ⟨(some 13), .mv (.t 12), none⟩,
       ⟨(some 14), .load none (.t 1), some (13, false)⟩,
       ⟨(some 15), .bin .gtr (.t 14) (.c (.int .i64 8)), some (13, false)⟩,
       ⟨(some 16), .pick (.t 13) (.c (.b true)) (.t 15), none⟩])
     (.cond (.t 16)
      (.seq
       (.reg none [⟨(some 17), .build [(.int .i64 0), .nils] [], none⟩,
         ⟨none, .store 2 (.t 2) (.t 17), none⟩,
         ⟨(some 3), .mv (.c (.int .i64 2)), none⟩])
       .ret)
      .skip))
    (.seq
     (.reg none [⟨(some 18), .load none (.t 1), none⟩,
       ⟨(some 19), .call 71 [(.t 18)], none⟩,
       ⟨(some 4), .mv (.t 19), none⟩])
     (.seq
      (.reg none [⟨(some 20), .mv (.t 4), none⟩,
        ⟨(some 21), .mkslice 1 24 [.nils] (.t 20), none⟩,
        ⟨(some 5), .alloc [.nils], none⟩,
        ⟨none, .store 1 (.t 5) (.t 21), none⟩])
      (.seq
       (.seq
        (.reg none [⟨(some 22), .load none (.t 5), none⟩,
          ⟨(some 23), .len (.t 22), none⟩,
          ⟨(some 24), .mv (.c (.int .i64 0)), none⟩])
        (.block 0
         (.loop
          (.seq
           (.reg none [⟨(some 25), .bin .lss (.t 24) (.t 23), none⟩])
           (.seq
            (.cond (.t 25)
             .skip
             (.exit 0))
            (.seq
             (.block 1
              (.seq
               (.reg none [⟨(some 26), .mv (.t 24), none⟩,
                 ⟨(some 6), .mv (.t 26), none⟩])
               (.reg (some []) [⟨(some 27), .load none (.t 5), none⟩,
                 ⟨(some 28), .mv (.t 6), none⟩,
                 ⟨(some 29), .load none (.t 1), none⟩,
                 ⟨(some 30), .mkslice 1 8 [(.int .i64 0)] (.t 29), none⟩,
                 ⟨(some 31), .iaddr 1 (.t 27) (.t 28), none⟩,
                 ⟨none, .store 1 (.t 31) (.t 30), none⟩])))
             (.reg none [⟨(some 32), .bin .add (.t 24) (.c (.int .i64 1)), none⟩,
               ⟨(some 24), .mv (.t 32), none⟩])))))))
       (.seq
        (.reg none [⟨(some 7), .alloc [(.int .i64 0)], none⟩,
          ⟨none, .store 1 (.t 7) (.c (.int .i64 0)), none⟩])
        (.seq
         (.seq
          (.reg none [⟨(some 33), .mv (.t 4), none⟩,
            ⟨(some 34), .mv (.t 4), none⟩,
            ⟨(some 35), .bin .quo (.t 34) (.c (.int .i64 2)), none⟩,
            ⟨(some 36), .bin .sub (.t 33) (.t 35), none⟩,
            ⟨(some 37), .mv (.t 4), none⟩,
            ⟨(some 38), .bin .sub (.t 37) (.c (.int .i64 1)), none⟩,
            ⟨(some 39), .call 72 [(.t 36), (.t 38), (.c (.b true))], none⟩])
          (.block 2
           (.rangeF 62 (.t 39) [40]
            (.reg none [⟨(some 8), .mv (.t 40), none⟩])
            (.block 3
             (.seq
              (.seq
               (.reg none [⟨(some 41), .load none (.t 7), none⟩,
                 ⟨(some 42), .load none (.t 1), none⟩,
                 ⟨(some 43), .bin .eql (.t 41) (.t 42), none⟩])
               (.cond (.t 43)
                (.exit 2)
                .skip))
              (.seq
               (.seq
                (.reg none [⟨(some 44), .mv (.t 8), none⟩,
                  ⟨(some 45), .len (.t 44), none⟩,
                  ⟨(some 46), .mv (.c (.int .i64 0)), none⟩])
                (.block 4
                 (.loop
                  (.seq
                   (.reg none [⟨(some 47), .bin .lss (.t 46) (.t 45), none⟩])
                   (.seq
                    (.cond (.t 47)
                     .skip
                     (.exit 4))
                    (.seq
                     (.block 5
                      (.seq
                       (.reg none [⟨(some 48), .iaddr 1 (.t 44) (.t 46), none⟩,
                         ⟨(some 49), .load none (.t 48), none⟩,
                         ⟨(some 10), .mv (.t 49), none⟩])
                       (.reg (some []) [⟨(some 50), .load none (.t 5), none⟩,
                         ⟨(some 51), .mv (.t 10), none⟩,
                         ⟨(some 52), .bin .add (.t 51) (.c (.int .i64 1)), none⟩,
                         ⟨(some 53), .iaddr 1 (.t 50) (.t 52), none⟩,
                         ⟨(some 54), .load none (.t 53), none⟩,
                         ⟨(some 55), .load none (.t 7), none⟩,
                         ⟨(some 56), .iaddr 1 (.t 54) (.t 55), none⟩,
                         ⟨none, .store 1 (.t 56) (.c (.int .i64 1)), none⟩])))
                     (.reg none [⟨(some 57), .bin .add (.t 46) (.c (.int .i64 1)), none⟩,
                       ⟨(some 46), .mv (.t 57), none⟩])))))))
               (.reg none [⟨(some 58), .load none (.t 7), none⟩,
                 ⟨(some 59), .bin .add (.t 58) (.c (.int .i64 1)), none⟩,
                 ⟨none, .store 1 (.t 7) (.t 59), none⟩])))))))
         (.seq
          (.reg none [⟨(some 60), .load none (.t 5), none⟩,
            ⟨(some 61), .build [(.int .i64 0), .nils] [(0, 1, (.c (.int .i64 2))), (1, 1, (.t 60))], none⟩,
            ⟨none, .store 2 (.t 2) (.t 61), none⟩,
            ⟨(some 3), .mv (.c (.int .i64 0)), none⟩])
          .ret)))))))) }
theorem f28P : prepF C Try.f28 = some f28A := by kernel_rfl

/-- congou/congouref09.Least -/
def f29A : AFunc :=
{ nargs := 1, res := [.t 2], body :=
  (.seq
   (.reg none [⟨(some 2), .mv (.c (.int .i64 0)), none⟩])
   (.seq
    (.reg none [⟨(some 3), .mv (.c (.int .i64 2)), none⟩])
    (.seq
     (.block 0
      (.loop
       (.seq
        (.seq
         (.reg none [⟨(some 4), .mv (.t 3), none⟩,
           ⟨(some 5), .bin .sub (.t 4) (.c (.int .i64 1)), none⟩,
           ⟨(some 6), .mv (.t 3), none⟩,
           ⟨(some 7), .bin .quo (.t 6) (.c (.int .i64 2)), none⟩,
           ⟨(some 8), .bin .sub (.t 7) (.c (.int .i64 1)), none⟩,
           ⟨(some 9), .call 73 [(.t 5), (.t 8), (.c (.int .i64 0))], none⟩,
           ⟨(some 10), .len (.t 9), none⟩,
           ⟨(some 11), .mv (.t 0), none⟩,
           ⟨(some 12), .bin .lss (.t 10) (.t 11), none⟩])
         (.cond (.t 12)
          .skip
          (.exit 0)))
        (.block 1
         (.reg none [⟨(some 13), .mv (.t 3), none⟩,
           ⟨(some 14), .bin .add (.t 13) (.c (.int .i64 1)), none⟩,
           ⟨(some 3), .mv (.t 14), none⟩])))))
     (.seq
      (.reg none [⟨(some 15), .mv (.t 3), none⟩,
        ⟨(some 2), .mv (.t 15), none⟩])
      .ret)))) }
theorem f29P : prepF C Try.f29 = some f29A := by kernel_rfl

/-- congou/congouref09.Make -/
def f30A : AFunc :=
{ nargs := 1, res := [.c 2 (some 2)], body :=
  (.seq
   (.reg none [⟨(some 2), .alloc [(.int .i64 0), .nils], none⟩])
   (.seq
    (.reg none [⟨(some 9), .mv (.t 0), none⟩,
      ⟨(some 10), .call 29 [(.t 9)], none⟩,
      ⟨(some 3), .mv (.t 10), none⟩])
    (.seq
     (.reg none [⟨(some 11), .build [(.int .i64 0), .nils] [(0, 1, (.c (.int .i64 2)))], none⟩,
       ⟨(some 4), .alloc [(.int .i64 0), .nils], none⟩,
       ⟨none, .store 2 (.t 4) (.t 11), none⟩])
     (.seq
      (.seq
       (.reg none [⟨(some 12), .mv (.t 3), none⟩,
         ⟨(some 13), .mv (.c (.int .i64 0)), none⟩])
       (.block 0
        (.loop
         (.seq
          (.reg none [⟨(some 14), .bin .lss (.t 13) (.t 12), none⟩])
          (.seq
           (.cond (.t 14)
            .skip
            (.exit 0))
           (.seq
            (.block 1
             (.reg (some []) [⟨(some 15), .faddr 1 (.t 4), none⟩,
               ⟨(some 16), .load none (.t 15), none⟩,
               ⟨(some 17), .mv (.t 0), none⟩,
               ⟨(some 18), .mkslice 1 8 [(.int .i64 0)] (.t 17), none⟩,
               ⟨(some 19), .bslice [.nils] 1 1 [(0, (.t 18))], none⟩,
               ⟨(some 20), .append 1 24 (.t 16) (.t 19), none⟩,
               ⟨(some 21), .faddr 1 (.t 4), none⟩,
               ⟨none, .store 1 (.t 21) (.t 20), none⟩]))
            (.reg none [⟨(some 22), .bin .add (.t 13) (.c (.int .i64 1)), none⟩,
              ⟨(some 13), .mv (.t 22), none⟩])))))))
      (.seq
       (.seq
        (.reg none [⟨(some 23), .mv (.t 3), none⟩,
          ⟨(some 24), .mv (.t 3), none⟩,
          ⟨(some 25), .mv (.t 3), none⟩,
          ⟨(some 26), .bin .quo (.t 25) (.c (.int .i64 2)), none⟩,
          ⟨(some 27), .bin .sub (.t 24) (.t 26), none⟩,
          ⟨(some 28), .call 73 [(.t 23), (.t 27), (.c (.int .i64 1))], none⟩,
          ⟨(some 29), .mv (.t 0), none⟩,
          ⟨(some 30), .slice 1 (.t 28) none (some (.t 29)) none, none⟩,
          ⟨(some 31), .len (.t 30), none⟩,
          ⟨(some 32), .mv (.c (.int .i64 0)), none⟩])
        (.block 2
         (.loop
          (.seq
           (.reg none [⟨(some 33), .bin .lss (.t 32) (.t 31), none⟩])
           (.seq
            (.cond (.t 33)
             .skip
             (.exit 2))
            (.seq
             (.block 3
              (.seq
               (.reg none [⟨(some 34), .mv (.t 32), none⟩,
                 ⟨(some 35), .iaddr 1 (.t 30) (.t 32), none⟩,
                 ⟨(some 36), .load none (.t 35), none⟩,
                 ⟨(some 5), .mv (.t 34), none⟩,
                 ⟨(some 6), .mv (.t 36), none⟩])
               (.seq
                (.reg none [⟨(some 37), .mv (.t 6), none⟩,
                  ⟨(some 38), .len (.t 37), none⟩,
                  ⟨(some 39), .mv (.c (.int .i64 0)), none⟩])
                (.block 4
                 (.loop
                  (.seq
                   (.reg none [⟨(some 40), .bin .lss (.t 39) (.t 38), none⟩])
                   (.seq
                    (.cond (.t 40)
                     .skip
                     (.exit 4))
                    (.seq
                     (.block 5
                      (.seq
                       (.reg none [⟨(some 41), .iaddr 1 (.t 37) (.t 39), none⟩,
                         ⟨(some 42), .load none (.t 41), none⟩,
                         ⟨(some 8), .mv (.t 42), none⟩])
                       (.reg none [⟨(some 43), .faddr 1 (.t 4), none⟩,
                         ⟨(some 44), .load none (.t 43), none⟩,
                         ⟨(some 45), .mv (.t 8), none⟩,
                         ⟨(some 46), .iaddr 1 (.t 44) (.t 45), none⟩,
                         ⟨(some 47), .load none (.t 46), none⟩,
                         ⟨(some 48), .mv (.t 5), none⟩,
                         ⟨(some 49), .iaddr 1 (.t 47) (.t 48), none⟩,
                         ⟨none, .store 1 (.t 49) (.c (.int .i64 1)), none⟩])))
                     (.reg none [⟨(some 50), .bin .add (.t 39) (.c (.int .i64 1)), none⟩,
                       ⟨(some 39), .mv (.t 50), none⟩])))))))))
             (.reg none [⟨(some 51), .bin .add (.t 32) (.c (.int .i64 1)), none⟩,
               ⟨(some 32), .mv (.t 51), none⟩])))))))
       (.seq
        (.reg none [⟨(some 52), .load (some 2) (.t 4), none⟩,
          ⟨none, .store 2 (.t 2) (.t 52), none⟩])
        .ret)))))) }
theorem f30P : prepF C Try.f30 = some f30A := by kernel_rfl

/-- congou/arrays.Distance -/
def f47A : AFunc :=
{ nargs := 1, res := [.t 2, .t 3], body :=
  (.seq
   (.reg none [⟨(some 1), .box (.t 0), none⟩,
     ⟨(some 2), .mv (.c (.int .i64 0)), none⟩,
     ⟨(some 3), .mv (.c (.int .i64 0)), none⟩])
   (.seq
    (.block 0
     (.seq
      (.reg none [⟨(some 12), .load (some 2) (.t 1), none⟩,
        ⟨(some 13), .call 74 [(.t 12)], none⟩,
        ⟨(some 14), .un .not (.t 13), none⟩,
        ⟨(some 11), .mv (.t 14), none⟩])
      (.cond (.t 11)
       (.seq
        (.reg none [⟨(some 2), .mv (.c (.int .i64 0)), none⟩,
          ⟨(some 3), .mv (.c (.int .i64 2)), none⟩])
        .ret)
       (.seq
        (.reg none [⟨(some 16), .faddr 1 (.t 1), none⟩,
          ⟨(some 17), .load none (.t 16), none⟩,
          ⟨(some 18), .len (.t 17), none⟩,
          ⟨(some 19), .bin .eql (.t 18) (.c (.int .i64 1)), none⟩,
          ⟨(some 15), .mv (.t 19), none⟩])
        (.cond (.t 15)
         (.seq
          (.reg none [⟨(some 2), .mv (.c (.int .i64 0)), none⟩,
            ⟨(some 3), .mv (.c (.int .i64 4)), none⟩])
          .ret)
         .skip)))))
    (.seq
     (.reg none [⟨(some 20), .load (some 2) (.t 1), none⟩,
       ⟨(some 21), .call 75 [(.t 20)], none⟩,
       ⟨(some 4), .mv (.t 21), none⟩])
     (.seq
      (.seq
       (.reg none [⟨(some 22), .faddr 1 (.t 1), none⟩,
         ⟨(some 23), .load none (.t 22), none⟩,
         ⟨(some 24), .len (.t 23), none⟩,
         ⟨(some 25), .mv (.c (.int .i64 0)), none⟩])
       (.block 1
        (.loop
         (.seq
          (.reg none [⟨(some 26), .bin .lss (.t 25) (.t 24), none⟩])
          (.seq
           (.cond (.t 26)
            .skip
            (.exit 1))
           (.seq
            (.block 2
             (.seq
              (.reg none [⟨(some 27), .mv (.t 25), none⟩,
                ⟨(some 28), .iaddr 1 (.t 23) (.t 25), none⟩,
                ⟨(some 29), .load none (.t 28), none⟩,
                ⟨(some 5), .mv (.t 27), none⟩,
                ⟨(some 6), .mv (.t 29), none⟩])
              (.seq
               (.reg none [⟨(some 30), .faddr 1 (.t 1), none⟩,
                 ⟨(some 31), .load none (.t 30), none⟩,
                 ⟨(some 32), .mv (.t 5), none⟩,
                 ⟨(some 33), .slice 1 (.t 31) none (some (.t 32)) none, none⟩,
                 ⟨(some 34), .len (.t 33), none⟩,
                 ⟨(some 35), .mv (.c (.int .i64 0)), none⟩])
               (.block 3
                (.loop
                 (.seq
                  (.reg none [⟨(some 36), .bin .lss (.t 35) (.t 34), none⟩])
                  (.seq
                   (.cond (.t 36)
                    .skip
                    (.exit 3))
                   (.seq
                    (.block 4
                     (.seq
                      (.reg none [⟨(some 37), .iaddr 1 (.t 33) (.t 35), none⟩,
                        ⟨(some 38), .load none (.t 37), none⟩,
                        ⟨(some 8), .mv (.t 38), none⟩])
                      (.seq
                       (.reg none [⟨(some 9), .mv (.c (.int .i64 0)), none⟩])
                       (.seq
                        (.seq
                         (.reg none [⟨(some 39), .mv (.t 6), none⟩,
                           ⟨(some 40), .len (.t 39), none⟩,
                           ⟨(some 41), .mv (.c (.int .i64 0)), none⟩])
                         (.block 5
                          (.loop
                           (.seq
                            (.reg none [⟨(some 42), .bin .lss (.t 41) (.t 40), none⟩])
                            (.seq
                             (.cond (.t 42)
                              .skip
                              (.exit 5))
                             (.seq
                              (.block 6
                               (.seq
                                (.reg none [⟨(some 43), .mv (.t 41), none⟩,
                                  ⟨(some 10), .mv (.t 43), none⟩])
                                (.seq
                                 (.reg (some []) [⟨(some 44), .mv (.t 6), none⟩,
                                   ⟨(some 45), .mv (.t 10), none⟩,
                                   ⟨(some 46), .iaddr 1 (.t 44) (.t 45), none⟩,
                                   ⟨(some 47), .load none (.t 46), none⟩,
                                   ⟨(some 48), .mv (.t 8), none⟩,
                                   ⟨(some 49), .mv (.t 10), none⟩,
                                   ⟨(some 50), .iaddr 1 (.t 48) (.t 49), none⟩,
                                   ⟨(some 51), .load none (.t 50), none⟩,
                                   ⟨(some 52), .bin .neq (.t 47) (.t 51), none⟩])
                                 (.cond (.t 52)
                                  (.reg none [⟨(some 53), .mv (.t 9), none⟩,
                                    ⟨(some 54), .bin .add (.t 53) (.c (.int .i64 1)), none⟩,
                                    ⟨(some 9), .mv (.t 54), none⟩])
                                  .skip))))
                              (.reg none [⟨(some 55), .bin .add (.t 41) (.c (.int .i64 1)), none⟩,
                                ⟨(some 41), .mv (.t 55), none⟩])))))))
                        (.reg none [⟨(some 56), .mv (.t 4), none⟩,
                          ⟨(some 57), .mv (.t 9), none⟩,
                          ⟨(some 58), .mn [(.t 56), (.t 57)], none⟩,
                          ⟨(some 4), .mv (.t 58), none⟩])))))
                    (.reg none [⟨(some 59), .bin .add (.t 35) (.c (.int .i64 1)), none⟩,
                      ⟨(some 35), .mv (.t 59), none⟩])))))))))
            (.reg none [⟨(some 60), .bin .add (.t 25) (.c (.int .i64 1)), none⟩,
              ⟨(some 25), .mv (.t 60), none⟩])))))))
      (.seq
       (.reg none [⟨(some 61), .mv (.t 4), none⟩,
         ⟨(some 2), .mv (.t 61), none⟩,
         ⟨(some 3), .mv (.c (.int .i64 0)), none⟩])
       .ret))))) }
theorem f47P : prepF C Try.f47 = some f47A := by kernel_rfl

/-- congou/arrays.least -/
def f71A : AFunc :=
{ nargs := 1, res := [.t 2], body :=
  (.seq
   (.reg none [⟨(some 2), .mv (.c (.int .i64 0)), none⟩])
   (.seq
    (.reg none [⟨(some 3), .mv (.c (.int .i64 2)), none⟩])
    (.seq
     (.block 0
      (.loop
       (.seq
        (.seq
         (.reg none [⟨(some 4), .mv (.t 0), none⟩,
           ⟨(some 5), .mv (.t 3), none⟩,
           ⟨(some 6), .bin .sub (.t 5) (.c (.int .i64 1)), none⟩,
           ⟨(some 7), .mv (.t 3), none⟩,
           ⟨(some 8), .bin .quo (.t 7) (.c (.int .i64 2)), none⟩,
           ⟨(some 9), .bin .sub (.t 8) (.c (.int .i64 1)), none⟩,
           ⟨(some 10), .call 95 [(.t 6), (.t 9)], none⟩,
           ⟨(some 11), .bin .gtr (.t 4) (.t 10), none⟩])
         (.cond (.t 11)
          .skip
          (.exit 0)))
        (.block 1
         (.reg none [⟨(some 12), .mv (.t 3), none⟩,
           ⟨(some 13), .bin .add (.t 12) (.c (.int .i64 1)), none⟩,
           ⟨(some 3), .mv (.t 13), none⟩])))))
     (.seq
      (.reg none [⟨(some 14), .mv (.t 3), none⟩,
        ⟨(some 2), .mv (.t 14), none⟩])
      .ret)))) }
theorem f71P : prepF C Try.f71 = some f71A := by kernel_rfl

/-- congou/arrays.tuples -/
def f72A : AFunc :=
{ nargs := 3, res := [.t 6], body :=
  (.seq
   (.reg none [⟨(some 3), .box (.t 0), none⟩,
     ⟨(some 4), .box (.t 1), none⟩,
     ⟨(some 5), .box (.t 2), none⟩,
     ⟨(some 6), .mv (.c .nilf), none⟩])
   (.seq
    (.reg none [⟨(some 7), .mkfn 96 [] [(.t 3), (.t 5), (.t 4)], none⟩,
      ⟨(some 6), .mv (.t 7), none⟩])
    .ret)) }
theorem f72P : prepF C Try.f72 = some f72A := by kernel_rfl

/-- congou/congouref09.choose -/
def f73A : AFunc :=
{ nargs := 3, res := [.t 6], body :=
  (.seq
   (.reg none [⟨(some 6), .mv (.c .nils), none⟩])
   (.seq
    (.seq
     (.reg none [⟨(some 11), .mv (.t 1), none⟩,
       ⟨(some 12), .bin .eql (.t 11) (.c (.int .i64 0)), none⟩])
     (.cond (.t 12)
      (.seq
       (.reg none [⟨(some 13), .bslice [.nils] 1 1 [(0, (.c .nils))], none⟩,
         ⟨(some 6), .mv (.t 13), none⟩])
       .ret)
      .skip))
    (.seq
     (.reg none [⟨(some 7), .mv (.c .nils), none⟩])
     (.seq
      (.seq
       (.reg none [⟨(some 14), .mv (.t 2), none⟩,
         ⟨(some 8), .mv (.t 14), none⟩])
       (.block 0
        (.loop
         (.seq
          (.seq
           (.reg none [⟨(some 15), .mv (.t 8), none⟩,
             ⟨(some 16), .mv (.t 0), none⟩,
             ⟨(some 17), .bin .lss (.t 15) (.t 16), none⟩])
           (.cond (.t 17)
            .skip
            (.exit 0)))
          (.seq
           (.block 1
            (.seq
             (.reg none [⟨(some 20), .mv (.t 0), none⟩,
               ⟨(some 21), .mv (.t 1), none⟩,
               ⟨(some 22), .bin .sub (.t 21) (.c (.int .i64 1)), none⟩,
               ⟨(some 23), .mv (.t 8), none⟩,
               ⟨(some 24), .bin .add (.t 23) (.c (.int .i64 1)), none⟩,
               ⟨(some 25), .call 73 [(.t 20), (.t 22), (.t 24)], none⟩,
               ⟨(some 26), .len (.t 25), none⟩,
               ⟨(some 27), .mv (.c (.int .i64 0)), none⟩])
             (.block 2
              (.loop
               (.seq
                (.reg none [⟨(some 28), .bin .lss (.t 27) (.t 26), none⟩])
                (.seq
                 (.cond (.t 28)
                  .skip
                  (.exit 2))
                 (.seq
                  (.block 3
                   (.seq
                    (.reg none [⟨(some 29), .iaddr 1 (.t 25) (.t 27), none⟩,
                      ⟨(some 30), .load none (.t 29), none⟩,
                      ⟨(some 10), .mv (.t 30), none⟩])
                    (.reg none [⟨(some 31), .mv (.t 7), none⟩,
                      ⟨(some 32), .mv (.t 8), none⟩,
                      ⟨(some 33), .bslice [(.int .i64 0)] 1 1 [(0, (.t 32))], none⟩,
                      ⟨(some 34), .mv (.t 10), none⟩,
                      ⟨(some 35), .append 1 8 (.t 33) (.t 34), none⟩,
                      ⟨(some 36), .bslice [.nils] 1 1 [(0, (.t 35))], none⟩,
                      ⟨(some 37), .append 1 24 (.t 31) (.t 36), none⟩,
                      ⟨(some 7), .mv (.t 37), none⟩])))
                  (.reg none [⟨(some 38), .bin .add (.t 27) (.c (.int .i64 1)), none⟩,
                    ⟨(some 27), .mv (.t 38), none⟩]))))))))
           (.reg none [⟨(some 18), .mv (.t 8), none⟩,
             ⟨(some 19), .bin .add (.t 18) (.c (.int .i64 1)), none⟩,
             ⟨(some 8), .mv (.t 19), none⟩]))))))
      (.seq
       (.reg none [⟨(some 39), .mv (.t 7), none⟩,
         ⟨(some 6), .mv (.t 39), none⟩])
       .ret))))) }
theorem f73P : prepF C Try.f73 = some f73A := by kernel_rfl

/-- (congou/arrays.Array).valid -/
def f74A : AFunc :=
{ nargs := 1, res := [.t 2], body :=
  (.seq
   (.reg none [⟨(some 1), .box (.t 0), none⟩,
     ⟨(some 2), .mv (.c (.b false)), none⟩])
   (.seq
    (.seq
     (.reg none [⟨(some 5), .faddr 0 (.t 1), none⟩,
       ⟨(some 6), .load none (.t 5), none⟩,
       ⟨(some 7), .bin .lss (.t 6) (.c (.int .i64 2)), none⟩,
       ⟨(some 8), .mv (.t 7), none⟩,
       ⟨(some 9), .faddr 0 (.t 1), some (8, false)⟩,
       ⟨(some 10), .load none (.t 9), some (8, false)⟩,
       ⟨(some 11), .bin .gtr (.t 10) (.c (.int .i64 4)), some (8, false)⟩,
       ⟨(some 12), .pick (.t 8) (.c (.b true)) (.t 11), none⟩,
       ⟨(some 13), .mv (.t 12), none⟩,
       ⟨(some 14), .faddr 1 (.t 1), some (13, false)⟩,
       ⟨(some 15), .load none (.t 14), some (13, false)⟩,
       ⟨(some 16), .len (.t 15), some (13, false)⟩,
       ⟨(some 17), .bin .lss (.t 16) (.c (.int .i64 1)), some (13, false)⟩,
       ⟨(some 18), .pick (.t 13) (.c (.b true)) (.t 17), none⟩,
       ⟨(some 19), .mv (.t 18), none⟩,
       ⟨(some 20), .faddr 1 (.t 1), some (19, false)⟩,
       ⟨(some 21), .load none (.t 20), some (19, false)⟩,
       ⟨(some 22), .len (.t 21), some (19, false)⟩,
       ⟨(some 23), .bin .gtr (.t 22) (.c (.int .i64 16)), some (19, false)⟩,
       ⟨(some 24), .pick (.t 19) (.c (.b true)) (.t 23), none⟩])
     (.cond (.t 24)
      (.seq
       (.reg none [⟨(some 2), .mv (.c (.b false)), none⟩])
       .ret)
      .skip))
    (.seq
     (.seq
      (.reg none [⟨(some 25), .faddr 1 (.t 1), none⟩,
        ⟨(some 26), .load none (.t 25), none⟩,
        ⟨(some 27), .len (.t 26), none⟩,
        ⟨(some 28), .mv (.c (.int .i64 0)), none⟩])
      (.block 0
       (.loop
        (.seq
         (.reg none [⟨(some 29), .bin .lss (.t 28) (.t 27), none⟩])
         (.seq
          (.cond (.t 29)
           .skip
           (.exit 0))
          (.seq
           (.block 1
            (.seq
             (.reg none [⟨(some 30), .iaddr 1 (.t 26) (.t 28), none⟩,
               ⟨(some 31), .load none (.t 30), none⟩,
               ⟨(some 4), .mv (.t 31), none⟩])
             (.seq
              (.reg (some []) [⟨(some 32), .mv (.t 4), none⟩,
                ⟨(some 33), .len (.t 32), none⟩,
                ⟨(some 34), .bin .lss (.t 33) (.c (.int .i64 1)), none⟩,
                ⟨(some 35), .mv (.t 34), none⟩,
                ⟨(some 36), .mv (.t 4), some (35, false)⟩,
                ⟨(some 37), .len (.t 36), some (35, false)⟩,
                ⟨(some 38), .bin .gtr (.t 37) (.c (.int .i64 8)), some (35, false)⟩,
                ⟨(some 39), .pick (.t 35) (.c (.b true)) (.t 38), none⟩,
                ⟨(some 40), .mv (.t 39), none⟩,
                ⟨(some 41), .mv (.t 4), some (40, false)⟩,
                ⟨(some 42), .len (.t 41), some (40, false)⟩,
                ⟨(some 43), .faddr 1 (.t 1), some (40, false)⟩,
                ⟨(some 44), .load none (.t 43), some (40, false)⟩,
                ⟨(some 45), .iaddr 1 (.t 44) (.c (.int .i64 0)), some (40, false)⟩,
                ⟨(some 46), .load none (.t 45), some (40, false)⟩,
                ⟨(some 47), .len (.t 46), some (40, false)⟩,
                ⟨(some 48), .bin .neq (.t 42) (.t 47), some (40, false)⟩,
                ⟨(some 49), .pick (.t 40) (.c (.b true)) (.t 48), none⟩,
                ⟨(some 50), .mv (.t 49), none⟩,
                ⟨(some 51), .mv (.t 4), some (50, false)⟩,
                ⟨(some 52), .call 98 [(.t 51)], some (50, false)⟩,
                ⟨(some 53), .bin .lss (.t 52) (.c (.int .i64 0)), some (50, false)⟩,
                ⟨(some 54), .pick (.t 50) (.c (.b true)) (.t 53), none⟩,
                ⟨(some 55), .mv (.t 54), none⟩,
                ⟨(some 56), .mv (.t 4), some (55, false)⟩,
                ⟨(some 57), .call 99 [(.t 56)], some (55, false)⟩,
                ⟨(some 58), .faddr 0 (.t 1), some (55, false)⟩,
                ⟨(some 59), .load none (.t 58), some (55, false)⟩,
                ⟨(some 60), .bin .geq (.t 57) (.t 59), some (55, false)⟩,
                ⟨(some 61), .pick (.t 55) (.c (.b true)) (.t 60), none⟩])
              (.cond (.t 61)
               (.seq
                (.reg none [⟨(some 2), .mv (.c (.b false)), none⟩])
                .ret)
               .skip))))
           (.reg none [⟨(some 62), .bin .add (.t 28) (.c (.int .i64 1)), none⟩,
             ⟨(some 28), .mv (.t 62), none⟩])))))))
     (.seq
      (.reg none [⟨(some 2), .mv (.c (.b true)), none⟩])
      .ret)))) }
theorem f74P : prepF C Try.f74 = some f74A := by kernel_rfl

/-- (congou/arrays.Array).columns -/
def f75A : AFunc :=
{ nargs := 1, res := [.t 2], body :=
  (.seq
   (.reg none [⟨(some 1), .box (.t 0), none⟩,
     ⟨(some 2), .mv (.c (.int .i64 0)), none⟩])
   (.seq
    (.reg none [⟨(some 3), .faddr 1 (.t 1), none⟩,
      ⟨(some 4), .load none (.t 3), none⟩,
      ⟨(some 5), .iaddr 1 (.t 4) (.c (.int .i64 0)), none⟩,
      ⟨(some 6), .load none (.t 5), none⟩,
      ⟨(some 7), .len (.t 6), none⟩,
      ⟨(some 2), .mv (.t 7), none⟩])
    .ret)) }
theorem f75P : prepF C Try.f75 = some f75A := by kernel_rfl

/-- congou/arrays.choose -/
def f95A : AFunc :=
{ nargs := 2, res := [.t 4], body :=
  (.seq
   (.reg none [⟨(some 4), .mv (.c (.int .i64 0)), none⟩])
   (.seq
    (.reg none [⟨(some 5), .mv (.c (.int .i64 1)), none⟩])
    (.seq
     (.seq
      (.reg none [⟨(some 7), .mv (.t 1), none⟩,
        ⟨(some 8), .mv (.c (.int .i64 0)), none⟩])
      (.block 0
       (.loop
        (.seq
         (.reg none [⟨(some 9), .bin .lss (.t 8) (.t 7), none⟩])
         (.seq
          (.cond (.t 9)
           .skip
           (.exit 0))
          (.seq
           (.block 1
            (.seq
             (.reg none [⟨(some 10), .mv (.t 8), none⟩,
               ⟨(some 6), .mv (.t 10), none⟩])
             (.reg none [⟨(some 11), .mv (.t 5), none⟩,
               ⟨(some 12), .mv (.t 0), none⟩,
               ⟨(some 13), .mv (.t 6), none⟩,
               ⟨(some 14), .bin .sub (.t 12) (.t 13), none⟩,
               ⟨(some 15), .bin .mul (.t 11) (.t 14), none⟩,
               ⟨(some 16), .mv (.t 6), none⟩,
               ⟨(some 17), .bin .add (.t 16) (.c (.int .i64 1)), none⟩,
               ⟨(some 18), .bin .quo (.t 15) (.t 17), none⟩,
               ⟨(some 5), .mv (.t 18), none⟩])))
           (.reg none [⟨(some 19), .bin .add (.t 8) (.c (.int .i64 1)), none⟩,
             ⟨(some 8), .mv (.t 19), none⟩])))))))
     (.seq
      (.reg none [⟨(some 20), .mv (.t 5), none⟩,
        ⟨(some 4), .mv (.t 20), none⟩])
      .ret)))) }
theorem f95P : prepF C Try.f95 = some f95A := by kernel_rfl

/-- congou/arrays.tuples$1 -/
def f96A : AFunc :=
{ nargs := 4, res := [], body :=
  (.seq
   (.reg none [⟨(some 4), .box (.t 0), none⟩])
   (.seq
    (.reg none [⟨(some 5), .alloc [.nilf], none⟩])
    (.seq
     (.reg none [⟨(some 6), .mkfn 97 [] [(.t 1), (.t 4), (.t 2), (.t 3), (.t 5)], none⟩,
       ⟨none, .store 1 (.t 5) (.t 6), none⟩])
     (.reg none [⟨(some 7), .load none (.t 5), none⟩,
       ⟨(some 8), .callv (.t 7) [(.c .nils)], none⟩])))) }
theorem f96P : prepF C Try.f96 = some f96A := by kernel_rfl

/-- congou/arrays.tuples$1$1 -/
def f97A : AFunc :=
{ nargs := 6, res := [.t 7], body :=
  (.seq
   (.reg none [⟨(some 7), .mv (.c (.b false)), none⟩])
   (.seq
    (.seq
     (.reg none [⟨(some 10), .mv (.t 0), none⟩,
       ⟨(some 11), .len (.t 10), none⟩,
       ⟨(some 12), .load none (.t 1), none⟩,
       ⟨(some 13), .bin .eql (.t 11) (.t 12), none⟩])
     (.cond (.t 13)
      (.seq
       (.reg none [⟨(some 14), .load none (.t 2), none⟩,
         ⟨(some 15), .mv (.t 0), none⟩,
         ⟨(some 16), .callv (.t 14) [(.t 15)], none⟩,
         ⟨(some 7), .mv (.t 16), none⟩])
       .ret)
      .skip))
    (.seq
     (.reg none [⟨(some 8), .mv (.c (.int .i64 0)), none⟩])
     (.seq
      (.seq
       (.reg none [⟨(some 17), .load none (.t 3), none⟩,
         ⟨(some 18), .mv (.t 17), none⟩,
         ⟨(some 19), .mv (.t 0), some (18, true)⟩,
         ⟨(some 20), .len (.t 19), some (18, true)⟩,
         ⟨(some 21), .bin .gtr (.t 20) (.c (.int .i64 0)), some (18, true)⟩,
         ⟨(some 22), .pick (.t 18) (.t 21) (.c (.b false)), none⟩])
       (.cond (.t 22)
        (.reg none [⟨(some 23), .mv (.t 0), none⟩,
          ⟨(some 24), .mv (.t 0), none⟩,
          ⟨(some 25), .len (.t 24), none⟩,
          ⟨(some 26), .bin .sub (.t 25) (.c (.int .i64 1)), none⟩,
          ⟨(some 27), .iaddr 1 (.t 23) (.t 26), none⟩,
          ⟨(some 28), .load none (.t 27), none⟩,
          ⟨(some 29), .bin .add (.t 28) (.c (.int .i64 1)), none⟩,
          ⟨(some 8), .mv (.t 29), none⟩])
        .skip))
      (.seq
       (.seq
        (.reg none [⟨(some 30), .mv (.t 8), none⟩,
          ⟨(some 9), .mv (.t 30), none⟩])
        (.block 0
         (.loop
          (.seq
           (.seq
            (.reg none [⟨(some 31), .mv (.t 9), none⟩,
              ⟨(some 32), .load none (.t 4), none⟩,
              ⟨(some 33), .bin .lss (.t 31) (.t 32), none⟩])
            (.cond (.t 33)
             .skip
             (.exit 0)))
           (.seq
            (.block 1
             (.seq
              (.reg (some [(0, 9)]) [⟨(some 36), .load none (.t 5), none⟩,
                ⟨(some 37), .mv (.t 0), none⟩,
                ⟨(some 38), .mv (.t 0), none⟩,
                ⟨(some 39), .len (.t 38), none⟩,
                ⟨(some 40), .mv (.t 0), none⟩,
                ⟨(some 41), .len (.t 40), none⟩,
                ⟨(some 42), .slice 1 (.t 37) none (some (.t 39)) (some (.t 41)), none⟩,
                ⟨(some 43), .mv (.t 9), none⟩,
                ⟨(some 44), .bslice [(.int .i64 0)] 1 1 [(0, (.t 43))], none⟩,
                ⟨(some 45), .append 1 8 (.t 42) (.t 44), none⟩,
                ⟨(some 46), .callv (.t 36) [(.t 45)], none⟩,
                ⟨(some 47), .un .not (.t 46), none⟩])
              (.cond (.t 47)
               (.seq
                (.reg none [⟨(some 7), .mv (.c (.b false)), none⟩])
                .ret)
               .skip)))
            (.reg none [⟨(some 34), .mv (.t 9), none⟩,
              ⟨(some 35), .bin .add (.t 34) (.c (.int .i64 1)), none⟩,
              ⟨(some 9), .mv (.t 35), none⟩]))))))
       (.seq
        (.reg none [⟨(some 7), .mv (.c (.b true)), none⟩])
        .ret)))))) }
theorem f97P : prepF C Try.f97 = some f97A := by kernel_rfl

/-- slices.Min[[]int,int] -/
def f98A : AFunc :=
{ nargs := 1, res := [.t 2], body :=
  (.seq
   (.reg none [⟨(some 2), .mv (.c (.int .i64 0)), none⟩])
   (.seq
    (.seq
     (.reg none [⟨(some 5), .mv (.t 0), none⟩,
       ⟨(some 6), .len (.t 5), none⟩,
       ⟨(some 7), .bin .lss (.t 6) (.c (.int .i64 1)), none⟩])
     (.cond (.t 7)
      (.reg none [⟨(some 8), .bad, none⟩,
        ⟨none, .bad, none⟩])
      .skip))
    (.seq
     (.reg none [⟨(some 9), .mv (.t 0), none⟩,
       ⟨(some 10), .iaddr 1 (.t 9) (.c (.int .i64 0)), none⟩,
       ⟨(some 11), .load none (.t 10), none⟩,
       ⟨(some 3), .mv (.t 11), none⟩])
     (.seq
      (.seq
       (.reg none [⟨(some 4), .mv (.c (.int .i64 1)), none⟩])
       (.block 0
        (.loop
         (.seq
          (.seq
           (.reg none [⟨(some 12), .mv (.t 4), none⟩,
             ⟨(some 13), .mv (.t 0), none⟩,
             ⟨(some 14), .len (.t 13), none⟩,
             ⟨(some 15), .bin .lss (.t 12) (.t 14), none⟩])
           (.cond (.t 15)
            .skip
            (.exit 0)))
          (.seq
           (.block 1
            (.reg none [⟨(some 18), .mv (.t 3), none⟩,
              ⟨(some 19), .mv (.t 0), none⟩,
              ⟨(some 20), .mv (.t 4), none⟩,
              ⟨(some 21), .iaddr 1 (.t 19) (.t 20), none⟩,
              ⟨(some 22), .load none (.t 21), none⟩,
              ⟨(some 23), .mn [(.t 18), (.t 22)], none⟩,
              ⟨(some 3), .mv (.t 23), none⟩]))
           (.reg none [⟨(some 16), .mv (.t 4), none⟩,
             ⟨(some 17), .bin .add (.t 16) (.c (.int .i64 1)), none⟩,
             ⟨(some 4), .mv (.t 17), none⟩]))))))
      (.seq
       (.reg none [⟨(some 24), .mv (.t 3), none⟩,
         ⟨(some 2), .mv (.t 24), none⟩])
       .ret))))) }
theorem f98P : prepF C Try.f98 = some f98A := by kernel_rfl

/-- slices.Max[[]int,int] -/
def f99A : AFunc :=
{ nargs := 1, res := [.t 2], body :=
  (.seq
   (.reg none [⟨(some 2), .mv (.c (.int .i64 0)), none⟩])
   (.seq
    (.seq
     (.reg none [⟨(some 5), .mv (.t 0), none⟩,
       ⟨(some 6), .len (.t 5), none⟩,
       ⟨(some 7), .bin .lss (.t 6) (.c (.int .i64 1)), none⟩])
     (.cond (.t 7)
      (.reg none [⟨(some 8), .bad, none⟩,
        ⟨none, .bad, none⟩])
      .skip))
    (.seq
     (.reg none [⟨(some 9), .mv (.t 0), none⟩,
       ⟨(some 10), .iaddr 1 (.t 9) (.c (.int .i64 0)), none⟩,
       ⟨(some 11), .load none (.t 10), none⟩,
       ⟨(some 3), .mv (.t 11), none⟩])
     (.seq
      (.seq
       (.reg none [⟨(some 4), .mv (.c (.int .i64 1)), none⟩])
       (.block 0
        (.loop
         (.seq
          (.seq
           (.reg none [⟨(some 12), .mv (.t 4), none⟩,
             ⟨(some 13), .mv (.t 0), none⟩,
             ⟨(some 14), .len (.t 13), none⟩,
             ⟨(some 15), .bin .lss (.t 12) (.t 14), none⟩])
           (.cond (.t 15)
            .skip
            (.exit 0)))
          (.seq
           (.block 1
            (.reg none [⟨(some 18), .mv (.t 3), none⟩,
              ⟨(some 19), .mv (.t 0), none⟩,
              ⟨(some 20), .mv (.t 4), none⟩,
              ⟨(some 21), .iaddr 1 (.t 19) (.t 20), none⟩,
              ⟨(some 22), .load none (.t 21), none⟩,
              ⟨(some 23), .mx [(.t 18), (.t 22)], none⟩,
              ⟨(some 3), .mv (.t 23), none⟩]))
           (.reg none [⟨(some 16), .mv (.t 4), none⟩,
             ⟨(some 17), .bin .add (.t 16) (.c (.int .i64 1)), none⟩,
             ⟨(some 4), .mv (.t 17), none⟩]))))))
      (.seq
       (.reg none [⟨(some 24), .mv (.t 3), none⟩,
         ⟨(some 2), .mv (.t 24), none⟩])
       .ret))))) }
theorem f99P : prepF C Try.f99 = some f99A := by kernel_rfl

end Go.Proofs.Ytalaadcbpjnglaa
