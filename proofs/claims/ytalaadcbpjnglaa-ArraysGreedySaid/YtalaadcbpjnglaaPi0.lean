/- The abstract forms of the functions that are needed, each checked against the translation. No condition. -/
import Derived.Test.YtalaadcbpjnglaaAm1
import Derived.Test.YtalaadcbpjnglaaProg
namespace Go.Proofs.Ytalaadcbpjnglaa
open Go Go.AM Go.Proofs

/-- the seat's program; the types whose comparison is taken; the functions that may write to what is older -/
def kd : Nat → Kd := fun f => if [79, 80, 81, 96, 97, 102].contains f then .wrt else if [25, 4, 10, 13, 27].contains f then .closed else .ro
noncomputable def C : Cfg := { P := Try.prog, eqT := fun _ => none, kd := kd }
/-- congou/congoulaw09.ArraysGreedy -/
def f6A : AFunc :=
{ nargs := 3, res := [.t 6], body :=
  (.seq
   (.reg none [⟨(some 6), .mv (.c (.b false)), none⟩])
   (.seq
    (.reg none [⟨(some 12), .mv (.t 0), none⟩,
      ⟨(some 13), .mv (.t 1), none⟩,
      ⟨(some 14), .mv (.t 2), none⟩,
      ⟨(some 15), .call 43 [(.t 12), (.t 13), (.t 14)], none⟩,
      ⟨(some 11), .mv (.t 15), none⟩,
      ⟨(some 16), .extr (.t 11) 0, none⟩,
      ⟨(some 17), .extr (.t 11) 1, none⟩,
      ⟨(some 7), .alloc [(.int .i64 0), .nils], none⟩,
      ⟨none, .store 2 (.t 7) (.t 16), none⟩,
      ⟨(some 8), .mv (.t 17), none⟩])
    (.seq
     (.seq
      (.reg none [⟨(some 18), .mv (.t 0), none⟩,
        ⟨(some 19), .mv (.t 1), none⟩,
        ⟨(some 20), .mv (.t 2), none⟩,
        ⟨(some 21), .call 44 [(.t 18), (.t 19), (.t 20)], none⟩,
        ⟨(some 22), .un .not (.t 21), none⟩])
      (.cond (.t 22)
       (.seq
        (.reg none [⟨(some 23), .load (some 2) (.t 7), none⟩,
          ⟨(some 24), .call 23 [(.t 23)], none⟩,
          ⟨(some 25), .mv (.t 24), none⟩,
          ⟨(some 26), .mv (.t 8), some (25, true)⟩,
          ⟨(some 27), .bin .eql (.t 26) (.c (.int .i64 2)), some (25, true)⟩,
          ⟨(some 28), .pick (.t 25) (.t 27) (.c (.b false)), none⟩,
          ⟨(some 29), .mv (.t 28), none⟩,
          ⟨(some 30), .call 25 [], some (29, true)⟩,
          ⟨(some 31), .pick (.t 29) (.t 30) (.c (.b false)), none⟩,
          ⟨(some 6), .mv (.t 31), none⟩])
        .ret)
       .skip))
     (.seq
      (.reg none [⟨(some 33), .mv (.t 0), none⟩,
        ⟨(some 34), .mv (.t 1), none⟩,
        ⟨(some 35), .mv (.t 2), none⟩,
        ⟨(some 36), .call 45 [(.t 33), (.t 34), (.t 35)], none⟩,
        ⟨(some 32), .mv (.t 36), none⟩,
        ⟨(some 37), .extr (.t 32) 0, none⟩,
        ⟨(some 38), .extr (.t 32) 1, none⟩,
        ⟨(some 9), .alloc [(.int .i64 0), .nils], none⟩,
        ⟨none, .store 2 (.t 9) (.t 37), none⟩,
        ⟨(some 10), .mv (.t 38), none⟩])
      (.seq
       (.reg (some []) [⟨(some 39), .load (some 2) (.t 7), none⟩,
         ⟨(some 40), .call 21 [(.t 39)], none⟩,
         ⟨(some 41), .load (some 2) (.t 9), none⟩,
         ⟨(some 42), .call 20 [(.t 40), (.t 41)], none⟩,
         ⟨(some 43), .mv (.t 42), none⟩,
         ⟨(some 44), .mv (.t 8), some (43, true)⟩,
         ⟨(some 45), .mv (.t 10), some (43, true)⟩,
         ⟨(some 46), .bin .eql (.t 44) (.t 45), some (43, true)⟩,
         ⟨(some 47), .pick (.t 43) (.t 46) (.c (.b false)), none⟩,
         ⟨(some 48), .mv (.t 47), none⟩,
         ⟨(some 49), .call 25 [], some (48, true)⟩,
         ⟨(some 50), .pick (.t 48) (.t 49) (.c (.b false)), none⟩,
         ⟨(some 6), .mv (.t 50), none⟩])
       .ret))))) }
theorem f6P : prepF C Try.f6 = some f6A := by kernel_rfl

/-- congou/congouref09.Same -/
def f20A : AFunc :=
{ nargs := 2, res := [.t 4], body :=
  (.seq
   (.reg none [⟨(some 2), .box (.t 0), none⟩,
     ⟨(some 3), .box (.t 1), none⟩,
     ⟨(some 4), .mv (.c (.b false)), none⟩])
   (.seq
    (.seq
     (.reg none [⟨(some 9), .faddr 0 (.t 2), none⟩,
       ⟨(some 10), .load none (.t 9), none⟩,
       ⟨(some 11), .faddr 0 (.t 3), none⟩,
       ⟨(some 12), .load none (.t 11), none⟩,
       ⟨(some 13), .bin .neq (.t 10) (.t 12), none⟩,
       ⟨(some 14), .mv (.t 13), none⟩,
       ⟨(some 15), .faddr 1 (.t 2), some (14, false)⟩,
       ⟨(some 16), .load none (.t 15), some (14, false)⟩,
       ⟨(some 17), .len (.t 16), some (14, false)⟩,
       ⟨(some 18), .faddr 1 (.t 3), some (14, false)⟩,
       ⟨(some 19), .load none (.t 18), some (14, false)⟩,
       ⟨(some 20), .len (.t 19), some (14, false)⟩,
       ⟨(some 21), .bin .neq (.t 17) (.t 20), some (14, false)⟩,
       ⟨(some 22), .pick (.t 14) (.c (.b true)) (.t 21), none⟩])
     (.cond (.t 22)
      (.seq
       (.reg none [⟨(some 4), .mv (.c (.b false)), none⟩])
       .ret)
      .skip))
    (.seq
     (.seq
      (.reg none [⟨(some 23), .faddr 1 (.t 2), none⟩,
        ⟨(some 24), .load none (.t 23), none⟩,
        ⟨(some 25), .len (.t 24), none⟩,
        ⟨(some 26), .mv (.c (.int .i64 0)), none⟩])
      (.block 0
       (.loop
        (.seq
         (.reg none [⟨(some 27), .bin .lss (.t 26) (.t 25), none⟩])
         (.seq
          (.cond (.t 27)
           .skip
           (.exit 0))
          (.seq
           (.block 1
            (.seq
             (.reg none [⟨(some 28), .mv (.t 26), none⟩,
               ⟨(some 29), .iaddr 1 (.t 24) (.t 26), none⟩,
               ⟨(some 30), .load none (.t 29), none⟩,
               ⟨(some 5), .mv (.t 28), none⟩,
               ⟨(some 6), .mv (.t 30), none⟩])
             (.seq
              (.seq
               (.reg none [⟨(some 31), .mv (.t 6), none⟩,
                 ⟨(some 32), .len (.t 31), none⟩,
                 ⟨(some 33), .faddr 1 (.t 3), none⟩,
                 ⟨(some 34), .load none (.t 33), none⟩,
                 ⟨(some 35), .mv (.t 5), none⟩,
                 ⟨(some 36), .iaddr 1 (.t 34) (.t 35), none⟩,
                 ⟨(some 37), .load none (.t 36), none⟩,
                 ⟨(some 38), .len (.t 37), none⟩,
                 ⟨(some 39), .bin .neq (.t 32) (.t 38), none⟩])
               (.cond (.t 39)
                (.seq
                 (.reg none [⟨(some 4), .mv (.c (.b false)), none⟩])
                 .ret)
                .skip))
              (.seq
               (.reg none [⟨(some 40), .mv (.t 6), none⟩,
                 ⟨(some 41), .len (.t 40), none⟩,
                 ⟨(some 42), .mv (.c (.int .i64 0)), none⟩])
               (.block 2
                (.loop
                 (.seq
                  (.reg none [⟨(some 43), .bin .lss (.t 42) (.t 41), none⟩])
                  (.seq
                   (.cond (.t 43)
                    .skip
                    (.exit 2))
                   (.seq
                    (.block 3
                     (.seq
                      (.reg none [⟨(some 44), .mv (.t 42), none⟩,
                        ⟨(some 45), .iaddr 1 (.t 40) (.t 42), none⟩,
                        ⟨(some 46), .load none (.t 45), none⟩,
                        ⟨(some 7), .mv (.t 44), none⟩,
                        ⟨(some 8), .mv (.t 46), none⟩])
                      (.seq
                       (.reg none [⟨(some 47), .mv (.t 8), none⟩,
                         ⟨(some 48), .faddr 1 (.t 3), none⟩,
                         ⟨(some 49), .load none (.t 48), none⟩,
                         ⟨(some 50), .mv (.t 5), none⟩,
                         ⟨(some 51), .iaddr 1 (.t 49) (.t 50), none⟩,
                         ⟨(some 52), .load none (.t 51), none⟩,
                         ⟨(some 53), .mv (.t 7), none⟩,
                         ⟨(some 54), .iaddr 1 (.t 52) (.t 53), none⟩,
                         ⟨(some 55), .load none (.t 54), none⟩,
                         ⟨(some 56), .bin .neq (.t 47) (.t 55), none⟩])
                       (.cond (.t 56)
                        (.seq
                         (.reg none [⟨(some 4), .mv (.c (.b false)), none⟩])
                         .ret)
                        .skip))))
                    (.reg none [⟨(some 57), .bin .add (.t 42) (.c (.int .i64 1)), none⟩,
                      ⟨(some 42), .mv (.t 57), none⟩]))))))))))
           (.reg none [⟨(some 58), .bin .add (.t 26) (.c (.int .i64 1)), none⟩,
             ⟨(some 26), .mv (.t 58), none⟩])))))))
     (.seq
      (.reg none [⟨(some 4), .mv (.c (.b true)), none⟩])
      .ret)))) }
theorem f20P : prepF C Try.f20 = some f20A := by kernel_rfl

/-- congou/congoulaw09.own -/
def f21A : AFunc :=
{ nargs := 1, res := [.c 2 (some 2)], body :=
  (.seq
   (.reg none [⟨(some 1), .box (.t 0), none⟩,
     ⟨(some 2), .alloc [(.int .i64 0), .nils], none⟩])
   (.seq
    (.reg none [⟨(some 3), .faddr 0 (.t 1), none⟩,
      ⟨(some 4), .load none (.t 3), none⟩,
      ⟨(some 5), .faddr 1 (.t 1), none⟩,
      ⟨(some 6), .load none (.t 5), none⟩,
      ⟨(some 7), .build [(.int .i64 0), .nils] [(0, 1, (.t 4)), (1, 1, (.t 6))], none⟩,
      ⟨none, .store 2 (.t 2) (.t 7), none⟩])
    .ret)) }
theorem f21P : prepF C Try.f21 = some f21A := by kernel_rfl

/-- congou/congoulaw09.nothing -/
def f23A : AFunc :=
{ nargs := 1, res := [.t 2], body :=
  (.seq
   (.reg none [⟨(some 1), .box (.t 0), none⟩,
     ⟨(some 2), .mv (.c (.b false)), none⟩])
   (.seq
    (.reg none [⟨(some 3), .faddr 0 (.t 1), none⟩,
      ⟨(some 4), .load none (.t 3), none⟩,
      ⟨(some 5), .bin .eql (.t 4) (.c (.int .i64 0)), none⟩,
      ⟨(some 6), .mv (.t 5), none⟩,
      ⟨(some 7), .faddr 1 (.t 1), some (6, true)⟩,
      ⟨(some 8), .load none (.t 7), some (6, true)⟩,
      ⟨(some 9), .len (.t 8), some (6, true)⟩,
      ⟨(some 10), .bin .eql (.t 9) (.c (.int .i64 0)), some (6, true)⟩,
      ⟨(some 11), .pick (.t 6) (.t 10) (.c (.b false)), none⟩,
      ⟨(some 2), .mv (.t 11), none⟩])
    .ret)) }
theorem f23P : prepF C Try.f23 = some f23A := by kernel_rfl

/-- congou/congoulaw09.awake -/
def f25A : AFunc :=
{ nargs := 0, res := [.t 0], body :=
  (.seq
   (.reg none [⟨(some 0), .mv (.c (.b false)), none⟩])
   (.seq
    (.reg none [⟨(some 4), .bslice [(.int .i64 0)] 3 1 [(0, (.c (.int .i64 0))), (1, (.c (.int .i64 0))), (2, (.c (.int .i64 1)))], none⟩,
      ⟨(some 5), .bslice [(.int .i64 0)] 3 1 [(0, (.c (.int .i64 1))), (1, (.c (.int .i64 0))), (2, (.c (.int .i64 0)))], none⟩,
      ⟨(some 6), .bslice [.nils] 2 1 [(0, (.t 4)), (1, (.t 5))], none⟩,
      ⟨(some 7), .build [(.int .i64 0), .nils] [(0, 1, (.c (.int .i64 2))), (1, 1, (.t 6))], none⟩,
      ⟨(some 8), .call 47 [(.t 7)], none⟩,
      ⟨(some 3), .mv (.t 8), none⟩,
      ⟨(some 9), .extr (.t 3) 0, none⟩,
      ⟨(some 10), .extr (.t 3) 1, none⟩,
      ⟨(some 1), .mv (.t 9), none⟩,
      ⟨(some 2), .mv (.t 10), none⟩])
    (.seq
     (.reg none [⟨(some 11), .mv (.t 1), none⟩,
       ⟨(some 12), .bin .eql (.t 11) (.c (.int .i64 2)), none⟩,
       ⟨(some 13), .mv (.t 12), none⟩,
       ⟨(some 14), .mv (.t 2), some (13, true)⟩,
       ⟨(some 15), .bin .eql (.t 14) (.c (.int .i64 0)), some (13, true)⟩,
       ⟨(some 16), .pick (.t 13) (.t 15) (.c (.b false)), none⟩,
       ⟨(some 0), .mv (.t 16), none⟩])
     .ret))) }
theorem f25P : prepF C Try.f25 = some f25A := by kernel_rfl

/-- congou/congouref09.Width -/
def f39A : AFunc :=
{ nargs := 1, res := [.t 2], body :=
  (.seq
   (.reg none [⟨(some 1), .box (.t 0), none⟩,
     ⟨(some 2), .mv (.c (.int .i64 0)), none⟩])
   (.seq
    (.reg none [⟨(some 3), .faddr 1 (.t 1), none⟩,
      ⟨(some 4), .load none (.t 3), none⟩,
      ⟨(some 5), .iaddr 1 (.t 4) (.c (.int .i64 0)), none⟩,
      ⟨(some 6), .load none (.t 5), none⟩,
      ⟨(some 7), .len (.t 6), none⟩,
      ⟨(some 2), .mv (.t 7), none⟩])
    .ret)) }
theorem f39P : prepF C Try.f39 = some f39A := by kernel_rfl

/-- congou/arrays.Greedy -/
def f43A : AFunc :=
{ nargs := 3, res := [.c 6 (some 2), .t 7], body :=
  (.seq
   (.reg none [⟨(some 6), .alloc [(.int .i64 0), .nils], none⟩,
     ⟨(some 7), .mv (.c (.int .i64 0)), none⟩])
   (.seq
    (.seq
     (.reg none [⟨(some 9), .mv (.t 0), none⟩,
       ⟨(some 10), .bin .lss (.t 9) (.c (.int .i64 2)), none⟩,
       ⟨(some 11), .mv (.t 10), none⟩,
       ⟨(some 12), .mv (.t 0), some (11, false)⟩,
       ⟨(some 13), .bin .gtr (.t 12) (.c (.int .i64 3)), some (11, false)⟩,
       ⟨(some 14), .pick (.t 11) (.c (.b true)) (.t 13), none⟩,
       ⟨(some 15), .mv (.t 14), none⟩,
       ⟨(some 16), .mv (.t 2), some (15, false)⟩,
       ⟨(some 17), .bin .lss (.t 16) (.c (.int .i64 1)), some (15, false)⟩,
       ⟨(some 18), .pick (.t 15) (.c (.b true)) (.t 17), none⟩,
       ⟨(some 19), .mv (.t 18), none⟩,
       ⟨(some 20), .mv (.t 2), some (19, false)⟩,
       ⟨(some 21), .bin .gtr (.t 20) (.c (.int .i64 2)), some (19, false)⟩,
       ⟨(some 22), .pick (.t 19) (.c (.b true)) (.t 21), none⟩,
       ⟨(some 23), .mv (.t 22), none⟩,
       ⟨(some 24), .mv (.t 1), some (23, false)⟩,
       ⟨(some 25), .mv (.t 2), some (23, false)⟩,
       ⟨(some 26), .bin .lss (.t 24) (.t 25), some (23, false)⟩,
       ⟨(some 27), .pick (.t 23) (.c (.b true)) (.t 26), none⟩,
       ⟨(some 28), .mv (.t 27), none⟩,
       ⟨(some 29), .mv (.t 1), some (28, false)⟩,
       ⟨(some 30), .bin .gtr (.t 29) (.c (.int .i64 4)), some (28, false)⟩,
       ⟨(some 31), .pick (.t 28) (.c (.b true)) (.t 30), none⟩])
     (.cond (.t 31)
      (.seq
       (.reg none [⟨(some 32), .build [(.int .i64 0), .nils] [], none⟩,
         ⟨none, .store 2 (.t 6) (.t 32), none⟩,
         ⟨(some 7), .mv (.c (.int .i64 2)), none⟩])
       .ret)
      .skip))
    (.seq
     (.reg none [⟨(some 33), .mv (.t 0), none⟩,
       ⟨(some 34), .mv (.t 1), none⟩,
       ⟨(some 35), .mkslice 1 8 [(.int .i64 0)] (.t 34), none⟩,
       ⟨(some 36), .bslice [.nils] 1 1 [(0, (.t 35))], none⟩,
       ⟨(some 37), .build [(.int .i64 0), .nils] [(0, 1, (.t 33)), (1, 1, (.t 36))], none⟩,
       ⟨(some 8), .alloc [(.int .i64 0), .nils], none⟩,
       ⟨none, .store 2 (.t 8) (.t 37), none⟩])
     (.seq
      (.block 0
       (.loop
        (.seq
         (.seq
          (.reg none [⟨(some 38), .load (some 2) (.t 8), none⟩,
            ⟨(some 39), .mv (.t 2), none⟩,
            ⟨(some 40), .call 84 [(.t 38), (.t 39)], none⟩,
            ⟨(some 41), .len (.t 40), none⟩,
            ⟨(some 42), .bin .gtr (.t 41) (.c (.int .i64 0)), none⟩])
          (.cond (.t 42)
           .skip
           (.exit 0)))
         (.block 1
          (.seq
           (.seq
            (.reg none [⟨(some 43), .faddr 1 (.t 8), none⟩,
              ⟨(some 44), .load none (.t 43), none⟩,
              ⟨(some 45), .len (.t 44), none⟩,
              ⟨(some 46), .bin .eql (.t 45) (.c (.int .i64 16)), none⟩])
            (.cond (.t 46)
             (.seq
              (.reg none [⟨(some 47), .build [(.int .i64 0), .nils] [], none⟩,
                ⟨none, .store 2 (.t 6) (.t 47), none⟩,
                ⟨(some 7), .mv (.c (.int .i64 6)), none⟩])
              .ret)
             .skip))
           (.reg (some []) [⟨(some 48), .faddr 1 (.t 8), none⟩,
             ⟨(some 49), .load none (.t 48), none⟩,
             ⟨(some 50), .load (some 2) (.t 8), none⟩,
             ⟨(some 51), .mv (.t 2), none⟩,
             ⟨(some 52), .call 85 [(.t 50), (.t 51)], none⟩,
             ⟨(some 53), .bslice [.nils] 1 1 [(0, (.t 52))], none⟩,
             ⟨(some 54), .append 1 24 (.t 49) (.t 53), none⟩,
             ⟨(some 55), .faddr 1 (.t 8), none⟩,
             ⟨none, .store 1 (.t 55) (.t 54), none⟩]))))))
      (.seq
       (.reg none [⟨(some 56), .load (some 2) (.t 8), none⟩,
         ⟨none, .store 2 (.t 6) (.t 56), none⟩,
         ⟨(some 7), .mv (.c (.int .i64 0)), none⟩])
       .ret))))) }
theorem f43P : prepF C Try.f43 = some f43A := by kernel_rfl

/-- congou/congouref09.Small -/
def f44A : AFunc :=
{ nargs := 3, res := [.t 6], body :=
  (.seq
   (.reg none [⟨(some 6), .mv (.c (.b false)), none⟩])
   (.seq
    (.reg none [⟨(some 7), .mv (.t 0), none⟩,
      ⟨(some 8), .bin .eql (.t 7) (.c (.int .i64 2)), none⟩,
      ⟨(some 9), .mv (.t 8), none⟩,
      ⟨(some 10), .mv (.t 0), some (9, false)⟩,
      ⟨(some 11), .bin .eql (.t 10) (.c (.int .i64 3)), some (9, false)⟩,
      ⟨(some 12), .pick (.t 9) (.c (.b true)) (.t 11), none⟩,
      ⟨(some 13), .mv (.t 12), none⟩,
      ⟨(some 14), .mv (.t 2), some (13, true)⟩,
      ⟨(some 15), .bin .eql (.t 14) (.c (.int .i64 1)), some (13, true)⟩,
      ⟨(some 16), .mv (.t 15), some (13, true)⟩,
      ⟨(some 17), .mv (.t 2), some (16, false)⟩,
      ⟨(some 18), .bin .eql (.t 17) (.c (.int .i64 2)), some (16, false)⟩,
      ⟨(some 19), .pick (.t 16) (.c (.b true)) (.t 18), some (13, true)⟩,
      ⟨(some 20), .pick (.t 13) (.t 19) (.c (.b false)), none⟩,
      ⟨(some 21), .mv (.t 20), none⟩,
      ⟨(some 22), .mv (.t 1), some (21, true)⟩,
      ⟨(some 23), .mv (.t 2), some (21, true)⟩,
      ⟨(some 24), .bin .geq (.t 22) (.t 23), some (21, true)⟩,
      ⟨(some 25), .pick (.t 21) (.t 24) (.c (.b false)), none⟩,
      ⟨(some 26), .mv (.t 25), none⟩,
      ⟨(some 27), .mv (.t 1), some (26, true)⟩,
      ⟨(some 28), .bin .leq (.t 27) (.c (.int .i64 4)), some (26, true)⟩,
      ⟨(some 29), .pick (.t 26) (.t 28) (.c (.b false)), none⟩,
      ⟨(some 6), .mv (.t 29), none⟩])
    .ret)) }
theorem f44P : prepF C Try.f44 = some f44A := by kernel_rfl

/-- congou/congouref09.Greedy -/
def f45A : AFunc :=
{ nargs := 3, res := [.c 6 (some 2), .t 7], body :=
  (.seq
   (.reg none [⟨(some 6), .alloc [(.int .i64 0), .nils], none⟩,
     ⟨(some 7), .mv (.c (.int .i64 0)), none⟩])
   (.seq
    (.reg none [⟨(some 9), .mv (.t 0), none⟩,
      ⟨(some 10), .mv (.t 1), none⟩,
      ⟨(some 11), .mkslice 1 8 [(.int .i64 0)] (.t 10), none⟩,
      ⟨(some 12), .bslice [.nils] 1 1 [(0, (.t 11))], none⟩,
      ⟨(some 13), .build [(.int .i64 0), .nils] [(0, 1, (.t 9)), (1, 1, (.t 12))], none⟩,
      ⟨(some 8), .alloc [(.int .i64 0), .nils], none⟩,
      ⟨none, .store 2 (.t 8) (.t 13), none⟩])
    (.seq
     (.block 0
      (.loop
       (.seq
        (.seq
         (.reg none [⟨(some 14), .load (some 2) (.t 8), none⟩,
           ⟨(some 15), .mv (.t 2), none⟩,
           ⟨(some 16), .call 63 [(.t 14), (.t 15)], none⟩,
           ⟨(some 17), .un .not (.t 16), none⟩])
         (.cond (.t 17)
          .skip
          (.exit 0)))
        (.block 1
         (.seq
          (.seq
           (.reg none [⟨(some 18), .faddr 1 (.t 8), none⟩,
             ⟨(some 19), .load none (.t 18), none⟩,
             ⟨(some 20), .len (.t 19), none⟩,
             ⟨(some 21), .bin .geq (.t 20) (.c (.int .i64 16)), none⟩])
           (.cond (.t 21)
            (.seq
             (.reg none [⟨(some 22), .build [(.int .i64 0), .nils] [], none⟩,
               ⟨none, .store 2 (.t 6) (.t 22), none⟩,
               ⟨(some 7), .mv (.c (.int .i64 6)), none⟩])
             .ret)
            .skip))
          (.reg (some []) [⟨(some 23), .faddr 1 (.t 8), none⟩,
            ⟨(some 24), .load none (.t 23), none⟩,
            ⟨(some 25), .load (some 2) (.t 8), none⟩,
            ⟨(some 26), .mv (.t 2), none⟩,
            ⟨(some 27), .call 56 [(.t 25), (.t 26)], none⟩,
            ⟨(some 28), .bslice [.nils] 1 1 [(0, (.t 27))], none⟩,
            ⟨(some 29), .append 1 24 (.t 24) (.t 28), none⟩,
            ⟨(some 30), .faddr 1 (.t 8), none⟩,
            ⟨none, .store 1 (.t 30) (.t 29), none⟩]))))))
     (.seq
      (.reg none [⟨(some 31), .load (some 2) (.t 8), none⟩,
        ⟨none, .store 2 (.t 6) (.t 31), none⟩,
        ⟨(some 7), .mv (.c (.int .i64 0)), none⟩])
      .ret)))) }
theorem f45P : prepF C Try.f45 = some f45A := by kernel_rfl

/-- congou/arrays.Distance -/
def f47A : AFunc :=
{ nargs := 1, res := [.t 2, .t 3], body :=
  (.seq
   (.reg none [⟨(some 1), .box (.t 0), none⟩,
     ⟨(some 2), .mv (.c (.int .i64 0)), none⟩,
     ⟨(some 3), .mv (.c (.int .i64 0)), none⟩])
   (.seq
    (.block 0
     (.seq
      (.reg none [⟨(some 12), .load (some 2) (.t 1), none⟩,
        ⟨(some 13), .call 74 [(.t 12)], none⟩,
        ⟨(some 14), .un .not (.t 13), none⟩,
        ⟨(some 11), .mv (.t 14), none⟩])
      (.cond (.t 11)
       (.seq
        (.reg none [⟨(some 2), .mv (.c (.int .i64 0)), none⟩,
          ⟨(some 3), .mv (.c (.int .i64 2)), none⟩])
        .ret)
       (.seq
        (.reg none [⟨(some 16), .faddr 1 (.t 1), none⟩,
          ⟨(some 17), .load none (.t 16), none⟩,
          ⟨(some 18), .len (.t 17), none⟩,
          ⟨(some 19), .bin .eql (.t 18) (.c (.int .i64 1)), none⟩,
          ⟨(some 15), .mv (.t 19), none⟩])
        (.cond (.t 15)
         (.seq
          (.reg none [⟨(some 2), .mv (.c (.int .i64 0)), none⟩,
            ⟨(some 3), .mv (.c (.int .i64 4)), none⟩])
          .ret)
         .skip)))))
    (.seq
     (.reg none [⟨(some 20), .load (some 2) (.t 1), none⟩,
       ⟨(some 21), .call 75 [(.t 20)], none⟩,
       ⟨(some 4), .mv (.t 21), none⟩])
     (.seq
      (.seq
       (.reg none [⟨(some 22), .faddr 1 (.t 1), none⟩,
         ⟨(some 23), .load none (.t 22), none⟩,
         ⟨(some 24), .len (.t 23), none⟩,
         ⟨(some 25), .mv (.c (.int .i64 0)), none⟩])
       (.block 1
        (.loop
         (.seq
          (.reg none [⟨(some 26), .bin .lss (.t 25) (.t 24), none⟩])
          (.seq
           (.cond (.t 26)
            .skip
            (.exit 1))
           (.seq
            (.block 2
             (.seq
              (.reg none [⟨(some 27), .mv (.t 25), none⟩,
                ⟨(some 28), .iaddr 1 (.t 23) (.t 25), none⟩,
                ⟨(some 29), .load none (.t 28), none⟩,
                ⟨(some 5), .mv (.t 27), none⟩,
                ⟨(some 6), .mv (.t 29), none⟩])
              (.seq
               (.reg none [⟨(some 30), .faddr 1 (.t 1), none⟩,
                 ⟨(some 31), .load none (.t 30), none⟩,
                 ⟨(some 32), .mv (.t 5), none⟩,
                 ⟨(some 33), .slice 1 (.t 31) none (some (.t 32)) none, none⟩,
                 ⟨(some 34), .len (.t 33), none⟩,
                 ⟨(some 35), .mv (.c (.int .i64 0)), none⟩])
               (.block 3
                (.loop
                 (.seq
                  (.reg none [⟨(some 36), .bin .lss (.t 35) (.t 34), none⟩])
                  (.seq
                   (.cond (.t 36)
                    .skip
                    (.exit 3))
                   (.seq
                    (.block 4
                     (.seq
                      (.reg none [⟨(some 37), .iaddr 1 (.t 33) (.t 35), none⟩,
                        ⟨(some 38), .load none (.t 37), none⟩,
                        ⟨(some 8), .mv (.t 38), none⟩])
                      (.seq
                       (.reg none [⟨(some 9), .mv (.c (.int .i64 0)), none⟩])
                       (.seq
                        (.seq
                         (.reg none [⟨(some 39), .mv (.t 6), none⟩,
                           ⟨(some 40), .len (.t 39), none⟩,
                           ⟨(some 41), .mv (.c (.int .i64 0)), none⟩])
                         (.block 5
                          (.loop
                           (.seq
                            (.reg none [⟨(some 42), .bin .lss (.t 41) (.t 40), none⟩])
                            (.seq
                             (.cond (.t 42)
                              .skip
                              (.exit 5))
                             (.seq
                              (.block 6
                               (.seq
                                (.reg none [⟨(some 43), .mv (.t 41), none⟩,
                                  ⟨(some 10), .mv (.t 43), none⟩])
                                (.seq
                                 (.reg (some []) [⟨(some 44), .mv (.t 6), none⟩,
                                   ⟨(some 45), .mv (.t 10), none⟩,
                                   ⟨(some 46), .iaddr 1 (.t 44) (.t 45), none⟩,
                                   ⟨(some 47), .load none (.t 46), none⟩,
                                   ⟨(some 48), .mv (.t 8), none⟩,
                                   ⟨(some 49), .mv (.t 10), none⟩,
                                   ⟨(some 50), .iaddr 1 (.t 48) (.t 49), none⟩,
                                   ⟨(some 51), .load none (.t 50), none⟩,
                                   ⟨(some 52), .bin .neq (.t 47) (.t 51), none⟩])
                                 (.cond (.t 52)
                                  (.reg none [⟨(some 53), .mv (.t 9), none⟩,
                                    ⟨(some 54), .bin .add (.t 53) (.c (.int .i64 1)), none⟩,
                                    ⟨(some 9), .mv (.t 54), none⟩])
                                  .skip))))
                              (.reg none [⟨(some 55), .bin .add (.t 41) (.c (.int .i64 1)), none⟩,
                                ⟨(some 41), .mv (.t 55), none⟩])))))))
                        (.reg none [⟨(some 56), .mv (.t 4), none⟩,
                          ⟨(some 57), .mv (.t 9), none⟩,
                          ⟨(some 58), .mn [(.t 56), (.t 57)], none⟩,
                          ⟨(some 4), .mv (.t 58), none⟩])))))
                    (.reg none [⟨(some 59), .bin .add (.t 35) (.c (.int .i64 1)), none⟩,
                      ⟨(some 35), .mv (.t 59), none⟩])))))))))
            (.reg none [⟨(some 60), .bin .add (.t 25) (.c (.int .i64 1)), none⟩,
              ⟨(some 25), .mv (.t 60), none⟩])))))))
      (.seq
       (.reg none [⟨(some 61), .mv (.t 4), none⟩,
         ⟨(some 2), .mv (.t 61), none⟩,
         ⟨(some 3), .mv (.c (.int .i64 0)), none⟩])
       .ret))))) }
theorem f47P : prepF C Try.f47 = some f47A := by kernel_rfl

/-- congou/congouref09.Add -/
def f56A : AFunc :=
{ nargs := 2, res := [.t 4], body :=
  (.seq
   (.reg none [⟨(some 2), .box (.t 0), none⟩,
     ⟨(some 4), .mv (.c .nils), none⟩])
   (.seq
    (.reg none [⟨(some 5), .mv (.c .nils), none⟩])
    (.seq
     (.reg none [⟨(some 6), .mv (.c (.int .i64 (-1))), none⟩])
     (.seq
      (.seq
       (.reg (some []) [⟨(some 15), .faddr 0 (.t 2), none⟩,
         ⟨(some 16), .load none (.t 15), none⟩,
         ⟨(some 17), .load (some 2) (.t 2), none⟩,
         ⟨(some 18), .call 39 [(.t 17)], none⟩,
         ⟨(some 19), .call 90 [(.t 16), (.t 18)], none⟩,
         ⟨(some 20), .len (.t 19), none⟩,
         ⟨(some 21), .mv (.c (.int .i64 0)), none⟩])
       (.block 0
        (.loop
         (.seq
          (.reg none [⟨(some 22), .bin .lss (.t 21) (.t 20), none⟩])
          (.seq
           (.cond (.t 22)
            .skip
            (.exit 0))
           (.seq
            (.block 1
             (.seq
              (.reg none [⟨(some 23), .iaddr 1 (.t 19) (.t 21), none⟩,
                ⟨(some 24), .load none (.t 23), none⟩,
                ⟨(some 8), .mv (.t 24), none⟩])
              (.seq
               (.reg none [⟨(some 9), .mv (.c (.int .i64 0)), none⟩])
               (.seq
                (.seq
                 (.reg none [⟨(some 25), .load (some 2) (.t 2), none⟩,
                   ⟨(some 26), .call 39 [(.t 25)], none⟩,
                   ⟨(some 27), .mv (.t 1), none⟩,
                   ⟨(some 28), .call 73 [(.t 26), (.t 27), (.c (.int .i64 0))], none⟩,
                   ⟨(some 29), .len (.t 28), none⟩,
                   ⟨(some 30), .mv (.c (.int .i64 0)), none⟩])
                 (.block 2
                  (.loop
                   (.seq
                    (.reg none [⟨(some 31), .bin .lss (.t 30) (.t 29), none⟩])
                    (.seq
                     (.cond (.t 31)
                      .skip
                      (.exit 2))
                     (.seq
                      (.block 3
                       (.seq
                        (.reg none [⟨(some 32), .iaddr 1 (.t 28) (.t 30), none⟩,
                          ⟨(some 33), .load none (.t 32), none⟩,
                          ⟨(some 11), .mv (.t 33), none⟩])
                        (.seq
                         (.reg none [⟨(some 12), .mv (.c .nils), none⟩])
                         (.seq
                          (.seq
                           (.reg none [⟨(some 34), .mv (.t 11), none⟩,
                             ⟨(some 35), .len (.t 34), none⟩,
                             ⟨(some 36), .mv (.c (.int .i64 0)), none⟩])
                           (.block 4
                            (.loop
                             (.seq
                              (.reg none [⟨(some 37), .bin .lss (.t 36) (.t 35), none⟩])
                              (.seq
                               (.cond (.t 37)
                                .skip
                                (.exit 4))
                               (.seq
                                (.block 5
                                 (.seq
                                  (.reg none [⟨(some 38), .iaddr 1 (.t 34) (.t 36), none⟩,
                                    ⟨(some 39), .load none (.t 38), none⟩,
                                    ⟨(some 14), .mv (.t 39), none⟩])
                                  (.reg none [⟨(some 40), .mv (.t 12), none⟩,
                                    ⟨(some 41), .mv (.t 8), none⟩,
                                    ⟨(some 42), .mv (.t 14), none⟩,
                                    ⟨(some 43), .iaddr 1 (.t 41) (.t 42), none⟩,
                                    ⟨(some 44), .load none (.t 43), none⟩,
                                    ⟨(some 45), .bslice [(.int .i64 0)] 1 1 [(0, (.t 44))], none⟩,
                                    ⟨(some 46), .append 1 8 (.t 40) (.t 45), none⟩,
                                    ⟨(some 12), .mv (.t 46), none⟩])))
                                (.reg none [⟨(some 47), .bin .add (.t 36) (.c (.int .i64 1)), none⟩,
                                  ⟨(some 36), .mv (.t 47), none⟩])))))))
                          (.seq
                           (.reg none [⟨(some 48), .faddr 1 (.t 2), none⟩,
                             ⟨(some 49), .load none (.t 48), none⟩,
                             ⟨(some 50), .mv (.t 11), none⟩,
                             ⟨(some 51), .mv (.t 12), none⟩,
                             ⟨(some 52), .call 89 [(.t 49), (.t 50), (.t 51)], none⟩,
                             ⟨(some 53), .bin .eql (.t 52) (.c (.int .i64 0)), none⟩])
                           (.cond (.t 53)
                            (.reg none [⟨(some 54), .mv (.t 9), none⟩,
                              ⟨(some 55), .bin .add (.t 54) (.c (.int .i64 1)), none⟩,
                              ⟨(some 9), .mv (.t 55), none⟩])
                            .skip))))))
                      (.reg none [⟨(some 56), .bin .add (.t 30) (.c (.int .i64 1)), none⟩,
                        ⟨(some 30), .mv (.t 56), none⟩])))))))
                (.seq
                 (.reg none [⟨(some 57), .mv (.t 9), none⟩,
                   ⟨(some 58), .mv (.t 6), none⟩,
                   ⟨(some 59), .bin .gtr (.t 57) (.t 58), none⟩])
                 (.cond (.t 59)
                  (.reg none [⟨(some 60), .mv (.t 8), none⟩,
                    ⟨(some 61), .mv (.t 9), none⟩,
                    ⟨(some 5), .mv (.t 60), none⟩,
                    ⟨(some 6), .mv (.t 61), none⟩])
                  .skip))))))
            (.reg none [⟨(some 62), .bin .add (.t 21) (.c (.int .i64 1)), none⟩,
              ⟨(some 21), .mv (.t 62), none⟩])))))))
      (.seq
       (.reg none [⟨(some 63), .mv (.t 5), none⟩,
         ⟨(some 4), .mv (.t 63), none⟩])
       .ret))))) }
theorem f56P : prepF C Try.f56 = some f56A := by kernel_rfl

/-- congou/congouref09.Covers -/
def f63A : AFunc :=
{ nargs := 2, res := [.t 4], body :=
  (.seq
   (.reg none [⟨(some 2), .box (.t 0), none⟩,
     ⟨(some 4), .mv (.c (.b false)), none⟩])
   (.seq
    (.reg none [⟨(some 5), .load (some 2) (.t 2), none⟩,
      ⟨(some 6), .mv (.t 1), none⟩,
      ⟨(some 7), .call 66 [(.t 5), (.t 6)], none⟩,
      ⟨(some 8), .len (.t 7), none⟩,
      ⟨(some 9), .bin .eql (.t 8) (.c (.int .i64 0)), none⟩,
      ⟨(some 4), .mv (.t 9), none⟩])
    .ret)) }
theorem f63P : prepF C Try.f63 = some f63A := by kernel_rfl

/-- congou/congouref09.Missing -/
def f66A : AFunc :=
{ nargs := 2, res := [.t 4], body :=
  (.seq
   (.reg none [⟨(some 2), .box (.t 0), none⟩,
     ⟨(some 4), .mv (.c .nils), none⟩])
   (.seq
    (.reg none [⟨(some 5), .mv (.c .nils), none⟩])
    (.seq
     (.seq
      (.reg none [⟨(some 10), .load (some 2) (.t 2), none⟩,
        ⟨(some 11), .call 39 [(.t 10)], none⟩,
        ⟨(some 12), .mv (.t 1), none⟩,
        ⟨(some 13), .call 73 [(.t 11), (.t 12), (.c (.int .i64 0))], none⟩,
        ⟨(some 14), .len (.t 13), none⟩,
        ⟨(some 15), .mv (.c (.int .i64 0)), none⟩])
      (.block 0
       (.loop
        (.seq
         (.reg none [⟨(some 16), .bin .lss (.t 15) (.t 14), none⟩])
         (.seq
          (.cond (.t 16)
           .skip
           (.exit 0))
          (.seq
           (.block 1
            (.seq
             (.reg none [⟨(some 17), .iaddr 1 (.t 13) (.t 15), none⟩,
               ⟨(some 18), .load none (.t 17), none⟩,
               ⟨(some 7), .mv (.t 18), none⟩])
             (.seq
              (.reg none [⟨(some 19), .faddr 0 (.t 2), none⟩,
                ⟨(some 20), .load none (.t 19), none⟩,
                ⟨(some 21), .mv (.t 1), none⟩,
                ⟨(some 22), .call 90 [(.t 20), (.t 21)], none⟩,
                ⟨(some 23), .len (.t 22), none⟩,
                ⟨(some 24), .mv (.c (.int .i64 0)), none⟩])
              (.block 2
               (.loop
                (.seq
                 (.reg none [⟨(some 25), .bin .lss (.t 24) (.t 23), none⟩])
                 (.seq
                  (.cond (.t 25)
                   .skip
                   (.exit 2))
                  (.seq
                   (.block 3
                    (.seq
                     (.reg none [⟨(some 26), .iaddr 1 (.t 22) (.t 24), none⟩,
                       ⟨(some 27), .load none (.t 26), none⟩,
                       ⟨(some 9), .mv (.t 27), none⟩])
                     (.seq
                      (.reg none [⟨(some 28), .faddr 1 (.t 2), none⟩,
                        ⟨(some 29), .load none (.t 28), none⟩,
                        ⟨(some 30), .mv (.t 7), none⟩,
                        ⟨(some 31), .mv (.t 9), none⟩,
                        ⟨(some 32), .call 89 [(.t 29), (.t 30), (.t 31)], none⟩,
                        ⟨(some 33), .bin .eql (.t 32) (.c (.int .i64 0)), none⟩])
                      (.cond (.t 33)
                       (.reg none [⟨(some 34), .mv (.t 5), none⟩,
                         ⟨(some 35), .bslice [(.int .i64 0)] 0 1 [], none⟩,
                         ⟨(some 36), .mv (.t 7), none⟩,
                         ⟨(some 37), .append 1 8 (.t 35) (.t 36), none⟩,
                         ⟨(some 38), .mv (.t 9), none⟩,
                         ⟨(some 39), .append 1 8 (.t 37) (.t 38), none⟩,
                         ⟨(some 40), .bslice [.nils] 1 1 [(0, (.t 39))], none⟩,
                         ⟨(some 41), .append 1 24 (.t 34) (.t 40), none⟩,
                         ⟨(some 5), .mv (.t 41), none⟩])
                       .skip))))
                   (.reg none [⟨(some 42), .bin .add (.t 24) (.c (.int .i64 1)), none⟩,
                     ⟨(some 24), .mv (.t 42), none⟩])))))))))
           (.reg none [⟨(some 43), .bin .add (.t 15) (.c (.int .i64 1)), none⟩,
             ⟨(some 15), .mv (.t 43), none⟩])))))))
     (.seq
      (.reg none [⟨(some 44), .mv (.t 5), none⟩,
        ⟨(some 4), .mv (.t 44), none⟩])
      .ret)))) }
theorem f66P : prepF C Try.f66 = some f66A := by kernel_rfl

/-- congou/arrays.tuples -/
def f72A : AFunc :=
{ nargs := 3, res := [.t 6], body :=
  (.seq
   (.reg none [⟨(some 3), .box (.t 0), none⟩,
     ⟨(some 4), .box (.t 1), none⟩,
     ⟨(some 5), .box (.t 2), none⟩,
     ⟨(some 6), .mv (.c .nilf), none⟩])
   (.seq
    (.reg none [⟨(some 7), .mkfn 96 [] [(.t 3), (.t 5), (.t 4)], none⟩,
      ⟨(some 6), .mv (.t 7), none⟩])
    .ret)) }
theorem f72P : prepF C Try.f72 = some f72A := by kernel_rfl

/-- congou/congouref09.choose -/
def f73A : AFunc :=
{ nargs := 3, res := [.t 6], body :=
  (.seq
   (.reg none [⟨(some 6), .mv (.c .nils), none⟩])
   (.seq
    (.seq
     (.reg none [⟨(some 11), .mv (.t 1), none⟩,
       ⟨(some 12), .bin .eql (.t 11) (.c (.int .i64 0)), none⟩])
     (.cond (.t 12)
      (.seq
       (.reg none [⟨(some 13), .bslice [.nils] 1 1 [(0, (.c .nils))], none⟩,
         ⟨(some 6), .mv (.t 13), none⟩])
       .ret)
      .skip))
    (.seq
     (.reg none [⟨(some 7), .mv (.c .nils), none⟩])
     (.seq
      (.seq
       (.reg none [⟨(some 14), .mv (.t 2), none⟩,
         ⟨(some 8), .mv (.t 14), none⟩])
       (.block 0
        (.loop
         (.seq
          (.seq
           (.reg none [⟨(some 15), .mv (.t 8), none⟩,
             ⟨(some 16), .mv (.t 0), none⟩,
             ⟨(some 17), .bin .lss (.t 15) (.t 16), none⟩])
           (.cond (.t 17)
            .skip
            (.exit 0)))
          (.seq
           (.block 1
            (.seq
             (.reg none [⟨(some 20), .mv (.t 0), none⟩,
               ⟨(some 21), .mv (.t 1), none⟩,
               ⟨(some 22), .bin .sub (.t 21) (.c (.int .i64 1)), none⟩,
               ⟨(some 23), .mv (.t 8), none⟩,
               ⟨(some 24), .bin .add (.t 23) (.c (.int .i64 1)), none⟩,
               ⟨(some 25), .call 73 [(.t 20), (.t 22), (.t 24)], none⟩,
               ⟨(some 26), .len (.t 25), none⟩,
               ⟨(some 27), .mv (.c (.int .i64 0)), none⟩])
             (.block 2
              (.loop
               (.seq
                (.reg none [⟨(some 28), .bin .lss (.t 27) (.t 26), none⟩])
                (.seq
                 (.cond (.t 28)
                  .skip
                  (.exit 2))
                 (.seq
                  (.block 3
                   (.seq
                    (.reg none [⟨(some 29), .iaddr 1 (.t 25) (.t 27), none⟩,
                      ⟨(some 30), .load none (.t 29), none⟩,
                      ⟨(some 10), .mv (.t 30), none⟩])
                    (.reg none [⟨(some 31), .mv (.t 7), none⟩,
                      ⟨(some 32), .mv (.t 8), none⟩,
                      ⟨(some 33), .bslice [(.int .i64 0)] 1 1 [(0, (.t 32))], none⟩,
                      ⟨(some 34), .mv (.t 10), none⟩,
                      ⟨(some 35), .append 1 8 (.t 33) (.t 34), none⟩,
                      ⟨(some 36), .bslice [.nils] 1 1 [(0, (.t 35))], none⟩,
                      ⟨(some 37), .append 1 24 (.t 31) (.t 36), none⟩,
                      ⟨(some 7), .mv (.t 37), none⟩])))
                  (.reg none [⟨(some 38), .bin .add (.t 27) (.c (.int .i64 1)), none⟩,
                    ⟨(some 27), .mv (.t 38), none⟩]))))))))
           (.reg none [⟨(some 18), .mv (.t 8), none⟩,
             ⟨(some 19), .bin .add (.t 18) (.c (.int .i64 1)), none⟩,
             ⟨(some 8), .mv (.t 19), none⟩]))))))
      (.seq
       (.reg none [⟨(some 39), .mv (.t 7), none⟩,
         ⟨(some 6), .mv (.t 39), none⟩])
       .ret))))) }
theorem f73P : prepF C Try.f73 = some f73A := by kernel_rfl

/-- (congou/arrays.Array).valid -/
def f74A : AFunc :=
{ nargs := 1, res := [.t 2], body :=
  (.seq
   (.reg none [⟨(some 1), .box (.t 0), none⟩,
     ⟨(some 2), .mv (.c (.b false)), none⟩])
   (.seq
    (.seq
     (.reg none [⟨(some 5), .faddr 0 (.t 1), none⟩,
       ⟨(some 6), .load none (.t 5), none⟩,
       ⟨(some 7), .bin .lss (.t 6) (.c (.int .i64 2)), none⟩,
       ⟨(some 8), .mv (.t 7), none⟩,
       ⟨(some 9), .faddr 0 (.t 1), some (8, false)⟩,
       ⟨(some 10), .load none (.t 9), some (8, false)⟩,
       ⟨(some 11), .bin .gtr (.t 10) (.c (.int .i64 4)), some (8, false)⟩,
       ⟨(some 12), .pick (.t 8) (.c (.b true)) (.t 11), none⟩,
       ⟨(some 13), .mv (.t 12), none⟩,
       ⟨(some 14), .faddr 1 (.t 1), some (13, false)⟩,
       ⟨(some 15), .load none (.t 14), some (13, false)⟩,
       ⟨(some 16), .len (.t 15), some (13, false)⟩,
       ⟨(some 17), .bin .lss (.t 16) (.c (.int .i64 1)), some (13, false)⟩,
       ⟨(some 18), .pick (.t 13) (.c (.b true)) (.t 17), none⟩,
       ⟨(some 19), .mv (.t 18), none⟩,
       ⟨(some 20), .faddr 1 (.t 1), some (19, false)⟩,
       ⟨(some 21), .load none (.t 20), some (19, false)⟩,
       ⟨(some 22), .len (.t 21), some (19, false)⟩,
       ⟨(some 23), .bin .gtr (.t 22) (.c (.int .i64 16)), some (19, false)⟩,
       ⟨(some 24), .pick (.t 19) (.c (.b true)) (.t 23), none⟩])
     (.cond (.t 24)
      (.seq
       (.reg none [⟨(some 2), .mv (.c (.b false)), none⟩])
       .ret)
      .skip))
    (.seq
     (.seq
      (.reg none [⟨(some 25), .faddr 1 (.t 1), none⟩,
        ⟨(some 26), .load none (.t 25), none⟩,
        ⟨(some 27), .len (.t 26), none⟩,
        ⟨(some 28), .mv (.c (.int .i64 0)), none⟩])
      (.block 0
       (.loop
        (.seq
         (.reg none [⟨(some 29), .bin .lss (.t 28) (.t 27), none⟩])
         (.seq
          (.cond (.t 29)
           .skip
           (.exit 0))
          (.seq
           (.block 1
            (.seq
             (.reg none [⟨(some 30), .iaddr 1 (.t 26) (.t 28), none⟩,
               ⟨(some 31), .load none (.t 30), none⟩,
               ⟨(some 4), .mv (.t 31), none⟩])
             (.seq
              (.reg (some []) [⟨(some 32), .mv (.t 4), none⟩,
                ⟨(some 33), .len (.t 32), none⟩,
                ⟨(some 34), .bin .lss (.t 33) (.c (.int .i64 1)), none⟩,
                ⟨(some 35), .mv (.t 34), none⟩,
                ⟨(some 36), .mv (.t 4), some (35, false)⟩,
                ⟨(some 37), .len (.t 36), some (35, false)⟩,
                ⟨(some 38), .bin .gtr (.t 37) (.c (.int .i64 8)), some (35, false)⟩,
                ⟨(some 39), .pick (.t 35) (.c (.b true)) (.t 38), none⟩,
                ⟨(some 40), .mv (.t 39), none⟩,
                ⟨(some 41), .mv (.t 4), some (40, false)⟩,
                ⟨(some 42), .len (.t 41), some (40, false)⟩,
                ⟨(some 43), .faddr 1 (.t 1), some (40, false)⟩,
                ⟨(some 44), .load none (.t 43), some (40, false)⟩,
                ⟨(some 45), .iaddr 1 (.t 44) (.c (.int .i64 0)), some (40, false)⟩,
                ⟨(some 46), .load none (.t 45), some (40, false)⟩,
                ⟨(some 47), .len (.t 46), some (40, false)⟩,
                ⟨(some 48), .bin .neq (.t 42) (.t 47), some (40, false)⟩,
                ⟨(some 49), .pick (.t 40) (.c (.b true)) (.t 48), none⟩,
                ⟨(some 50), .mv (.t 49), none⟩,
                ⟨(some 51), .mv (.t 4), some (50, false)⟩,
                ⟨(some 52), .call 98 [(.t 51)], some (50, false)⟩,
                ⟨(some 53), .bin .lss (.t 52) (.c (.int .i64 0)), some (50, false)⟩,
                ⟨(some 54), .pick (.t 50) (.c (.b true)) (.t 53), none⟩,
                ⟨(some 55), .mv (.t 54), none⟩,
                ⟨(some 56), .mv (.t 4), some (55, false)⟩,
                ⟨(some 57), .call 99 [(.t 56)], some (55, false)⟩,
                ⟨(some 58), .faddr 0 (.t 1), some (55, false)⟩,
                ⟨(some 59), .load none (.t 58), some (55, false)⟩,
                ⟨(some 60), .bin .geq (.t 57) (.t 59), some (55, false)⟩,
                ⟨(some 61), .pick (.t 55) (.c (.b true)) (.t 60), none⟩])
              (.cond (.t 61)
               (.seq
                (.reg none [⟨(some 2), .mv (.c (.b false)), none⟩])
                .ret)
               .skip))))
           (.reg none [⟨(some 62), .bin .add (.t 28) (.c (.int .i64 1)), none⟩,
             ⟨(some 28), .mv (.t 62), none⟩])))))))
     (.seq
      (.reg none [⟨(some 2), .mv (.c (.b true)), none⟩])
      .ret)))) }
theorem f74P : prepF C Try.f74 = some f74A := by kernel_rfl

/-- (congou/arrays.Array).columns -/
def f75A : AFunc :=
{ nargs := 1, res := [.t 2], body :=
  (.seq
   (.reg none [⟨(some 1), .box (.t 0), none⟩,
     ⟨(some 2), .mv (.c (.int .i64 0)), none⟩])
   (.seq
    (.reg none [⟨(some 3), .faddr 1 (.t 1), none⟩,
      ⟨(some 4), .load none (.t 3), none⟩,
      ⟨(some 5), .iaddr 1 (.t 4) (.c (.int .i64 0)), none⟩,
      ⟨(some 6), .load none (.t 5), none⟩,
      ⟨(some 7), .len (.t 6), none⟩,
      ⟨(some 2), .mv (.t 7), none⟩])
    .ret)) }
theorem f75P : prepF C Try.f75 = some f75A := by kernel_rfl

/-- (congou/arrays.Array).missing -/
def f84A : AFunc :=
{ nargs := 2, res := [.t 4], body :=
  (.seq
   (.reg none [⟨(some 2), .box (.t 0), none⟩,
     ⟨(some 4), .mv (.c .nils), none⟩])
   (.seq
    (.reg none [⟨(some 5), .alloc [.nils], none⟩])
    (.seq
     (.seq
      (.reg none [⟨(some 8), .load (some 2) (.t 2), none⟩,
        ⟨(some 9), .mv (.t 1), none⟩,
        ⟨(some 10), .call 87 [(.t 8), (.t 9)], none⟩])
      (.block 0
       (.rangeF 20 (.t 10) [11, 12]
        (.seq
         (.reg none [⟨(some 6), .mv (.t 11), none⟩])
         (.reg none [⟨(some 7), .mv (.t 12), none⟩]))
        (.block 1
         (.seq
          (.reg none [⟨(some 13), .mv (.t 7), none⟩,
            ⟨(some 14), .bin .eql (.t 13) (.c (.int .i64 0)), none⟩])
          (.cond (.t 14)
           (.reg none [⟨(some 15), .load none (.t 5), none⟩,
             ⟨(some 16), .mv (.t 6), none⟩,
             ⟨(some 17), .bslice [.nils] 1 1 [(0, (.t 16))], none⟩,
             ⟨(some 18), .append 1 24 (.t 15) (.t 17), none⟩,
             ⟨none, .store 1 (.t 5) (.t 18), none⟩])
           .skip))))))
     (.seq
      (.reg none [⟨(some 19), .load none (.t 5), none⟩,
        ⟨(some 4), .mv (.t 19), none⟩])
      .ret)))) }
theorem f84P : prepF C Try.f84 = some f84A := by kernel_rfl

/-- (congou/arrays.Array).add -/
def f85A : AFunc :=
{ nargs := 2, res := [.t 4], body :=
  (.seq
   (.reg none [⟨(some 2), .box (.t 0), none⟩,
     ⟨(some 3), .box (.t 1), none⟩,
     ⟨(some 4), .mv (.c .nils), none⟩])
   (.seq
    (.reg none [⟨(some 12), .load (some 2) (.t 2), none⟩,
      ⟨(some 13), .load none (.t 3), none⟩,
      ⟨(some 14), .call 84 [(.t 12), (.t 13)], none⟩,
      ⟨(some 5), .alloc [.nils], none⟩,
      ⟨none, .store 1 (.t 5) (.t 14), none⟩])
    (.seq
     (.reg none [⟨(some 6), .alloc [.nils], none⟩])
     (.seq
      (.reg none [⟨(some 7), .alloc [(.int .i64 0)], none⟩,
        ⟨none, .store 1 (.t 7) (.c (.int .i64 (-1))), none⟩])
      (.seq
       (.seq
        (.reg (some []) [⟨(some 15), .load (some 2) (.t 2), none⟩,
          ⟨(some 16), .call 75 [(.t 15)], none⟩,
          ⟨(some 17), .faddr 0 (.t 2), none⟩,
          ⟨(some 18), .load none (.t 17), none⟩,
          ⟨(some 19), .call 72 [(.t 16), (.t 18), (.c (.b false))], none⟩])
        (.block 0
         (.rangeF 44 (.t 19) [20]
          (.reg none [⟨(some 8), .mv (.t 20), none⟩])
          (.block 1
           (.seq
            (.reg none [⟨(some 9), .mv (.c (.int .i64 0)), none⟩])
            (.seq
             (.seq
              (.reg none [⟨(some 21), .load none (.t 5), none⟩,
                ⟨(some 22), .len (.t 21), none⟩,
                ⟨(some 23), .mv (.c (.int .i64 0)), none⟩])
              (.block 2
               (.loop
                (.seq
                 (.reg none [⟨(some 24), .bin .lss (.t 23) (.t 22), none⟩])
                 (.seq
                  (.cond (.t 24)
                   .skip
                   (.exit 2))
                  (.seq
                   (.block 3
                    (.seq
                     (.reg none [⟨(some 25), .iaddr 1 (.t 21) (.t 23), none⟩,
                       ⟨(some 26), .load none (.t 25), none⟩,
                       ⟨(some 11), .mv (.t 26), none⟩])
                     (.seq
                      (.reg (some []) [⟨(some 27), .mv (.t 8), none⟩,
                        ⟨(some 28), .mv (.t 11), none⟩,
                        ⟨(some 29), .load none (.t 3), none⟩,
                        ⟨(some 30), .slice 1 (.t 28) none (some (.t 29)) none, none⟩,
                        ⟨(some 31), .mv (.t 11), none⟩,
                        ⟨(some 32), .load none (.t 3), none⟩,
                        ⟨(some 33), .slice 1 (.t 31) (some (.t 32)) none none, none⟩,
                        ⟨(some 34), .call 101 [(.t 27), (.t 30), (.t 33)], none⟩])
                      (.cond (.t 34)
                       (.reg none [⟨(some 35), .mv (.t 9), none⟩,
                         ⟨(some 36), .bin .add (.t 35) (.c (.int .i64 1)), none⟩,
                         ⟨(some 9), .mv (.t 36), none⟩])
                       .skip))))
                   (.reg none [⟨(some 37), .bin .add (.t 23) (.c (.int .i64 1)), none⟩,
                     ⟨(some 23), .mv (.t 37), none⟩])))))))
             (.seq
              (.reg none [⟨(some 38), .mv (.t 9), none⟩,
                ⟨(some 39), .load none (.t 7), none⟩,
                ⟨(some 40), .bin .gtr (.t 38) (.t 39), none⟩])
              (.cond (.t 40)
               (.reg none [⟨(some 41), .mv (.t 8), none⟩,
                 ⟨(some 42), .mv (.t 9), none⟩,
                 ⟨none, .store 1 (.t 6) (.t 41), none⟩,
                 ⟨none, .store 1 (.t 7) (.t 42), none⟩])
               .skip))))))))
       (.seq
        (.reg none [⟨(some 43), .load none (.t 6), none⟩,
          ⟨(some 4), .mv (.t 43), none⟩])
        .ret)))))) }
theorem f85P : prepF C Try.f85 = some f85A := by kernel_rfl

/-- (congou/arrays.Array).all -/
def f87A : AFunc :=
{ nargs := 2, res := [.t 4], body :=
  (.seq
   (.reg none [⟨(some 2), .box (.t 0), none⟩,
     ⟨(some 3), .box (.t 1), none⟩,
     ⟨(some 4), .mv (.c .nilf), none⟩])
   (.seq
    (.reg none [⟨(some 5), .mkfn 102 [] [(.t 3), (.t 2)], none⟩,
      ⟨(some 4), .mv (.t 5), none⟩])
    .ret)) }
theorem f87P : prepF C Try.f87 = some f87A := by kernel_rfl

/-- congou/congouref09.times -/
def f89A : AFunc :=
{ nargs := 3, res := [.t 6], body :=
  (.seq
   (.reg none [⟨(some 6), .mv (.c (.int .i64 0)), none⟩])
   (.seq
    (.reg none [⟨(some 7), .mv (.c (.int .i64 0)), none⟩])
    (.seq
     (.seq
      (.reg none [⟨(some 13), .mv (.t 0), none⟩,
        ⟨(some 14), .len (.t 13), none⟩,
        ⟨(some 15), .mv (.c (.int .i64 0)), none⟩])
      (.block 0
       (.loop
        (.seq
         (.reg none [⟨(some 16), .bin .lss (.t 15) (.t 14), none⟩])
         (.seq
          (.cond (.t 16)
           .skip
           (.exit 0))
          (.seq
           (.block 1
            (.seq
             (.reg none [⟨(some 17), .iaddr 1 (.t 13) (.t 15), none⟩,
               ⟨(some 18), .load none (.t 17), none⟩,
               ⟨(some 9), .mv (.t 18), none⟩])
             (.seq
              (.reg none [⟨(some 10), .mv (.c (.b true)), none⟩])
              (.seq
               (.seq
                (.reg none [⟨(some 19), .mv (.t 1), none⟩,
                  ⟨(some 20), .len (.t 19), none⟩,
                  ⟨(some 21), .mv (.c (.int .i64 0)), none⟩])
                (.block 2
                 (.loop
                  (.seq
                   (.reg none [⟨(some 22), .bin .lss (.t 21) (.t 20), none⟩])
                   (.seq
                    (.cond (.t 22)
                     .skip
                     (.exit 2))
                    (.seq
                     (.block 3
                      (.seq
                       (.reg none [⟨(some 23), .mv (.t 21), none⟩,
                         ⟨(some 24), .iaddr 1 (.t 19) (.t 21), none⟩,
                         ⟨(some 25), .load none (.t 24), none⟩,
                         ⟨(some 11), .mv (.t 23), none⟩,
                         ⟨(some 12), .mv (.t 25), none⟩])
                       (.reg (some []) [⟨(some 26), .mv (.t 10), none⟩,
                         ⟨(some 27), .mv (.t 26), none⟩,
                         ⟨(some 28), .mv (.t 9), some (27, true)⟩,
                         ⟨(some 29), .mv (.t 12), some (27, true)⟩,
                         ⟨(some 30), .iaddr 1 (.t 28) (.t 29), some (27, true)⟩,
                         ⟨(some 31), .load none (.t 30), some (27, true)⟩,
                         ⟨(some 32), .mv (.t 2), some (27, true)⟩,
                         ⟨(some 33), .mv (.t 11), some (27, true)⟩,
                         ⟨(some 34), .iaddr 1 (.t 32) (.t 33), some (27, true)⟩,
                         ⟨(some 35), .load none (.t 34), some (27, true)⟩,
                         ⟨(some 36), .bin .eql (.t 31) (.t 35), some (27, true)⟩,
                         ⟨(some 37), .pick (.t 27) (.t 36) (.c (.b false)), none⟩,
                         ⟨(some 10), .mv (.t 37), none⟩])))
                     (.reg none [⟨(some 38), .bin .add (.t 21) (.c (.int .i64 1)), none⟩,
                       ⟨(some 21), .mv (.t 38), none⟩])))))))
               (.seq
                (.reg none [⟨(some 39), .mv (.t 10), none⟩])
                (.cond (.t 39)
                 (.reg none [⟨(some 40), .mv (.t 7), none⟩,
                   ⟨(some 41), .bin .add (.t 40) (.c (.int .i64 1)), none⟩,
                   ⟨(some 7), .mv (.t 41), none⟩])
                 .skip))))))
           (.reg none [⟨(some 42), .bin .add (.t 15) (.c (.int .i64 1)), none⟩,
             ⟨(some 15), .mv (.t 42), none⟩])))))))
     (.seq
      (.reg none [⟨(some 43), .mv (.t 7), none⟩,
        ⟨(some 6), .mv (.t 43), none⟩])
      .ret)))) }
theorem f89P : prepF C Try.f89 = some f89A := by kernel_rfl

/-- congou/congouref09.words -/
def f90A : AFunc :=
{ nargs := 2, res := [.t 4], body :=
  (.seq
   (.reg none [⟨(some 4), .mv (.c .nils), none⟩])
   (.seq
    (.seq
     (.reg none [⟨(some 9), .mv (.t 1), none⟩,
       ⟨(some 10), .bin .eql (.t 9) (.c (.int .i64 0)), none⟩])
     (.cond (.t 10)
      (.seq
       (.reg none [⟨(some 11), .bslice [.nils] 1 1 [(0, (.c .nils))], none⟩,
         ⟨(some 4), .mv (.t 11), none⟩])
       .ret)
      .skip))
    (.seq
     (.reg none [⟨(some 5), .mv (.c .nils), none⟩])
     (.seq
      (.seq
       (.reg none [⟨(some 12), .mv (.t 0), none⟩,
         ⟨(some 13), .mv (.c (.int .i64 0)), none⟩])
       (.block 0
        (.loop
         (.seq
          (.reg none [⟨(some 14), .bin .lss (.t 13) (.t 12), none⟩])
          (.seq
           (.cond (.t 14)
            .skip
            (.exit 0))
           (.seq
            (.block 1
             (.seq
              (.reg none [⟨(some 15), .mv (.t 13), none⟩,
                ⟨(some 6), .mv (.t 15), none⟩])
              (.seq
               (.reg none [⟨(some 16), .mv (.t 0), none⟩,
                 ⟨(some 17), .mv (.t 1), none⟩,
                 ⟨(some 18), .bin .sub (.t 17) (.c (.int .i64 1)), none⟩,
                 ⟨(some 19), .call 90 [(.t 16), (.t 18)], none⟩,
                 ⟨(some 20), .len (.t 19), none⟩,
                 ⟨(some 21), .mv (.c (.int .i64 0)), none⟩])
               (.block 2
                (.loop
                 (.seq
                  (.reg none [⟨(some 22), .bin .lss (.t 21) (.t 20), none⟩])
                  (.seq
                   (.cond (.t 22)
                    .skip
                    (.exit 2))
                   (.seq
                    (.block 3
                     (.seq
                      (.reg none [⟨(some 23), .iaddr 1 (.t 19) (.t 21), none⟩,
                        ⟨(some 24), .load none (.t 23), none⟩,
                        ⟨(some 8), .mv (.t 24), none⟩])
                      (.reg none [⟨(some 25), .mv (.t 5), none⟩,
                        ⟨(some 26), .mv (.t 6), none⟩,
                        ⟨(some 27), .bslice [(.int .i64 0)] 1 1 [(0, (.t 26))], none⟩,
                        ⟨(some 28), .mv (.t 8), none⟩,
                        ⟨(some 29), .append 1 8 (.t 27) (.t 28), none⟩,
                        ⟨(some 30), .bslice [.nils] 1 1 [(0, (.t 29))], none⟩,
                        ⟨(some 31), .append 1 24 (.t 25) (.t 30), none⟩,
                        ⟨(some 5), .mv (.t 31), none⟩])))
                    (.reg none [⟨(some 32), .bin .add (.t 21) (.c (.int .i64 1)), none⟩,
                      ⟨(some 21), .mv (.t 32), none⟩])))))))))
            (.reg none [⟨(some 33), .bin .add (.t 13) (.c (.int .i64 1)), none⟩,
              ⟨(some 13), .mv (.t 33), none⟩])))))))
      (.seq
       (.reg none [⟨(some 34), .mv (.t 5), none⟩,
         ⟨(some 4), .mv (.t 34), none⟩])
       .ret))))) }
theorem f90P : prepF C Try.f90 = some f90A := by kernel_rfl

/-- congou/arrays.tuples$1 -/
def f96A : AFunc :=
{ nargs := 4, res := [], body :=
  (.seq
   (.reg none [⟨(some 4), .box (.t 0), none⟩])
   (.seq
    (.reg none [⟨(some 5), .alloc [.nilf], none⟩])
    (.seq
     (.reg none [⟨(some 6), .mkfn 97 [] [(.t 1), (.t 4), (.t 2), (.t 3), (.t 5)], none⟩,
       ⟨none, .store 1 (.t 5) (.t 6), none⟩])
     (.reg none [⟨(some 7), .load none (.t 5), none⟩,
       ⟨(some 8), .callv (.t 7) [(.c .nils)], none⟩])))) }
theorem f96P : prepF C Try.f96 = some f96A := by kernel_rfl

/-- congou/arrays.tuples$1$1 -/
def f97A : AFunc :=
{ nargs := 6, res := [.t 7], body :=
  (.seq
   (.reg none [⟨(some 7), .mv (.c (.b false)), none⟩])
   (.seq
    (.seq
     (.reg none [⟨(some 10), .mv (.t 0), none⟩,
       ⟨(some 11), .len (.t 10), none⟩,
       ⟨(some 12), .load none (.t 1), none⟩,
       ⟨(some 13), .bin .eql (.t 11) (.t 12), none⟩])
     (.cond (.t 13)
      (.seq
       (.reg none [⟨(some 14), .load none (.t 2), none⟩,
         ⟨(some 15), .mv (.t 0), none⟩,
         ⟨(some 16), .callv (.t 14) [(.t 15)], none⟩,
         ⟨(some 7), .mv (.t 16), none⟩])
       .ret)
      .skip))
    (.seq
     (.reg none [⟨(some 8), .mv (.c (.int .i64 0)), none⟩])
     (.seq
      (.seq
       (.reg none [⟨(some 17), .load none (.t 3), none⟩,
         ⟨(some 18), .mv (.t 17), none⟩,
         ⟨(some 19), .mv (.t 0), some (18, true)⟩,
         ⟨(some 20), .len (.t 19), some (18, true)⟩,
         ⟨(some 21), .bin .gtr (.t 20) (.c (.int .i64 0)), some (18, true)⟩,
         ⟨(some 22), .pick (.t 18) (.t 21) (.c (.b false)), none⟩])
       (.cond (.t 22)
        (.reg none [⟨(some 23), .mv (.t 0), none⟩,
          ⟨(some 24), .mv (.t 0), none⟩,
          ⟨(some 25), .len (.t 24), none⟩,
          ⟨(some 26), .bin .sub (.t 25) (.c (.int .i64 1)), none⟩,
          ⟨(some 27), .iaddr 1 (.t 23) (.t 26), none⟩,
          ⟨(some 28), .load none (.t 27), none⟩,
          ⟨(some 29), .bin .add (.t 28) (.c (.int .i64 1)), none⟩,
          ⟨(some 8), .mv (.t 29), none⟩])
        .skip))
      (.seq
       (.seq
        (.reg none [⟨(some 30), .mv (.t 8), none⟩,
          ⟨(some 9), .mv (.t 30), none⟩])
        (.block 0
         (.loop
          (.seq
           (.seq
            (.reg none [⟨(some 31), .mv (.t 9), none⟩,
              ⟨(some 32), .load none (.t 4), none⟩,
              ⟨(some 33), .bin .lss (.t 31) (.t 32), none⟩])
            (.cond (.t 33)
             .skip
             (.exit 0)))
           (.seq
            (.block 1
             (.seq
              (.reg (some [(0, 9)]) [⟨(some 36), .load none (.t 5), none⟩,
                ⟨(some 37), .mv (.t 0), none⟩,
                ⟨(some 38), .mv (.t 0), none⟩,
                ⟨(some 39), .len (.t 38), none⟩,
                ⟨(some 40), .mv (.t 0), none⟩,
                ⟨(some 41), .len (.t 40), none⟩,
                ⟨(some 42), .slice 1 (.t 37) none (some (.t 39)) (some (.t 41)), none⟩,
                ⟨(some 43), .mv (.t 9), none⟩,
                ⟨(some 44), .bslice [(.int .i64 0)] 1 1 [(0, (.t 43))], none⟩,
                ⟨(some 45), .append 1 8 (.t 42) (.t 44), none⟩,
                ⟨(some 46), .callv (.t 36) [(.t 45)], none⟩,
                ⟨(some 47), .un .not (.t 46), none⟩])
              (.cond (.t 47)
               (.seq
                (.reg none [⟨(some 7), .mv (.c (.b false)), none⟩])
                .ret)
               .skip)))
            (.reg none [⟨(some 34), .mv (.t 9), none⟩,
              ⟨(some 35), .bin .add (.t 34) (.c (.int .i64 1)), none⟩,
              ⟨(some 9), .mv (.t 35), none⟩]))))))
       (.seq
        (.reg none [⟨(some 7), .mv (.c (.b true)), none⟩])
        .ret)))))) }
theorem f97P : prepF C Try.f97 = some f97A := by kernel_rfl

/-- slices.Min[[]int,int] -/
def f98A : AFunc :=
{ nargs := 1, res := [.t 2], body :=
  (.seq
   (.reg none [⟨(some 2), .mv (.c (.int .i64 0)), none⟩])
   (.seq
    (.seq
     (.reg none [⟨(some 5), .mv (.t 0), none⟩,
       ⟨(some 6), .len (.t 5), none⟩,
       ⟨(some 7), .bin .lss (.t 6) (.c (.int .i64 1)), none⟩])
     (.cond (.t 7)
      (.reg none [⟨(some 8), .bad, none⟩,
        ⟨none, .bad, none⟩])
      .skip))
    (.seq
     (.reg none [⟨(some 9), .mv (.t 0), none⟩,
       ⟨(some 10), .iaddr 1 (.t 9) (.c (.int .i64 0)), none⟩,
       ⟨(some 11), .load none (.t 10), none⟩,
       ⟨(some 3), .mv (.t 11), none⟩])
     (.seq
      (.seq
       (.reg none [⟨(some 4), .mv (.c (.int .i64 1)), none⟩])
       (.block 0
        (.loop
         (.seq
          (.seq
           (.reg none [⟨(some 12), .mv (.t 4), none⟩,
             ⟨(some 13), .mv (.t 0), none⟩,
             ⟨(some 14), .len (.t 13), none⟩,
             ⟨(some 15), .bin .lss (.t 12) (.t 14), none⟩])
           (.cond (.t 15)
            .skip
            (.exit 0)))
          (.seq
           (.block 1
            (.reg none [⟨(some 18), .mv (.t 3), none⟩,
              ⟨(some 19), .mv (.t 0), none⟩,
              ⟨(some 20), .mv (.t 4), none⟩,
              ⟨(some 21), .iaddr 1 (.t 19) (.t 20), none⟩,
              ⟨(some 22), .load none (.t 21), none⟩,
              ⟨(some 23), .mn [(.t 18), (.t 22)], none⟩,
              ⟨(some 3), .mv (.t 23), none⟩]))
           (.reg none [⟨(some 16), .mv (.t 4), none⟩,
             ⟨(some 17), .bin .add (.t 16) (.c (.int .i64 1)), none⟩,
             ⟨(some 4), .mv (.t 17), none⟩]))))))
      (.seq
       (.reg none [⟨(some 24), .mv (.t 3), none⟩,
         ⟨(some 2), .mv (.t 24), none⟩])
       .ret))))) }
theorem f98P : prepF C Try.f98 = some f98A := by kernel_rfl

/-- slices.Max[[]int,int] -/
def f99A : AFunc :=
{ nargs := 1, res := [.t 2], body :=
  (.seq
   (.reg none [⟨(some 2), .mv (.c (.int .i64 0)), none⟩])
   (.seq
    (.seq
     (.reg none [⟨(some 5), .mv (.t 0), none⟩,
       ⟨(some 6), .len (.t 5), none⟩,
       ⟨(some 7), .bin .lss (.t 6) (.c (.int .i64 1)), none⟩])
     (.cond (.t 7)
      (.reg none [⟨(some 8), .bad, none⟩,
        ⟨none, .bad, none⟩])
      .skip))
    (.seq
     (.reg none [⟨(some 9), .mv (.t 0), none⟩,
       ⟨(some 10), .iaddr 1 (.t 9) (.c (.int .i64 0)), none⟩,
       ⟨(some 11), .load none (.t 10), none⟩,
       ⟨(some 3), .mv (.t 11), none⟩])
     (.seq
      (.seq
       (.reg none [⟨(some 4), .mv (.c (.int .i64 1)), none⟩])
       (.block 0
        (.loop
         (.seq
          (.seq
           (.reg none [⟨(some 12), .mv (.t 4), none⟩,
             ⟨(some 13), .mv (.t 0), none⟩,
             ⟨(some 14), .len (.t 13), none⟩,
             ⟨(some 15), .bin .lss (.t 12) (.t 14), none⟩])
           (.cond (.t 15)
            .skip
            (.exit 0)))
          (.seq
           (.block 1
            (.reg none [⟨(some 18), .mv (.t 3), none⟩,
              ⟨(some 19), .mv (.t 0), none⟩,
              ⟨(some 20), .mv (.t 4), none⟩,
              ⟨(some 21), .iaddr 1 (.t 19) (.t 20), none⟩,
              ⟨(some 22), .load none (.t 21), none⟩,
              ⟨(some 23), .mx [(.t 18), (.t 22)], none⟩,
              ⟨(some 3), .mv (.t 23), none⟩]))
           (.reg none [⟨(some 16), .mv (.t 4), none⟩,
             ⟨(some 17), .bin .add (.t 16) (.c (.int .i64 1)), none⟩,
             ⟨(some 4), .mv (.t 17), none⟩]))))))
      (.seq
       (.reg none [⟨(some 24), .mv (.t 3), none⟩,
         ⟨(some 2), .mv (.t 24), none⟩])
       .ret))))) }
theorem f99P : prepF C Try.f99 = some f99A := by kernel_rfl

/-- congou/arrays.comes -/
def f101A : AFunc :=
{ nargs := 3, res := [.t 6], body :=
  (.seq
   (.reg none [⟨(some 6), .mv (.c (.b false)), none⟩])
   (.seq
    (.seq
     (.reg none [⟨(some 9), .mv (.t 1), none⟩,
       ⟨(some 10), .len (.t 9), none⟩,
       ⟨(some 11), .mv (.c (.int .i64 0)), none⟩])
     (.block 0
      (.loop
       (.seq
        (.reg none [⟨(some 12), .bin .lss (.t 11) (.t 10), none⟩])
        (.seq
         (.cond (.t 12)
          .skip
          (.exit 0))
         (.seq
          (.block 1
           (.seq
            (.reg none [⟨(some 13), .mv (.t 11), none⟩,
              ⟨(some 14), .iaddr 1 (.t 9) (.t 11), none⟩,
              ⟨(some 15), .load none (.t 14), none⟩,
              ⟨(some 7), .mv (.t 13), none⟩,
              ⟨(some 8), .mv (.t 15), none⟩])
            (.seq
             (.reg (some []) [⟨(some 16), .mv (.t 0), none⟩,
               ⟨(some 17), .mv (.t 8), none⟩,
               ⟨(some 18), .iaddr 1 (.t 16) (.t 17), none⟩,
               ⟨(some 19), .load none (.t 18), none⟩,
               ⟨(some 20), .mv (.t 2), none⟩,
               ⟨(some 21), .mv (.t 7), none⟩,
               ⟨(some 22), .iaddr 1 (.t 20) (.t 21), none⟩,
               ⟨(some 23), .load none (.t 22), none⟩,
               ⟨(some 24), .bin .neq (.t 19) (.t 23), none⟩])
             (.cond (.t 24)
              (.seq
               (.reg none [⟨(some 6), .mv (.c (.b false)), none⟩])
               .ret)
              .skip))))
          (.reg none [⟨(some 25), .bin .add (.t 11) (.c (.int .i64 1)), none⟩,
            ⟨(some 11), .mv (.t 25), none⟩])))))))
    (.seq
     (.reg none [⟨(some 6), .mv (.c (.b true)), none⟩])
     .ret))) }
theorem f101P : prepF C Try.f101 = some f101A := by kernel_rfl

/-- (congou/arrays.Array).all$1 -/
def f102A : AFunc :=
{ nargs := 3, res := [], body :=
  (.seq
   (.reg none [⟨(some 3), .box (.t 0), none⟩])
   (.seq
    (.reg (some []) [⟨(some 6), .load none (.t 1), none⟩,
      ⟨(some 7), .load (some 2) (.t 2), none⟩,
      ⟨(some 8), .call 75 [(.t 7)], none⟩,
      ⟨(some 9), .call 72 [(.t 6), (.t 8), (.c (.b true))], none⟩])
    (.block 0
     (.rangeF 27 (.t 9) [10]
      (.reg none [⟨(some 4), .alloc [.nils], none⟩,
        ⟨none, .store 1 (.t 4) (.t 10), none⟩])
      (.block 1
       (.seq
        (.reg none [⟨(some 11), .load none (.t 1), none⟩,
          ⟨(some 12), .faddr 0 (.t 2), none⟩,
          ⟨(some 13), .load none (.t 12), none⟩,
          ⟨(some 14), .call 72 [(.t 11), (.t 13), (.c (.b false))], none⟩])
        (.block 2
         (.rangeF 27 (.t 14) [15]
          (.reg none [⟨(some 5), .mv (.t 15), none⟩])
          (.block 3
           (.seq
            (.reg (some []) [⟨(some 16), .load none (.t 3), none⟩,
              ⟨(some 17), .load none (.t 4), none⟩,
              ⟨(some 18), .mv (.t 5), none⟩,
              ⟨(some 19), .bslice [.nils] 2 1 [(0, (.t 17)), (1, (.t 18))], none⟩,
              ⟨(some 20), .call 103 [(.t 19)], none⟩,
              ⟨(some 21), .load (some 2) (.t 2), none⟩,
              ⟨(some 22), .load none (.t 4), none⟩,
              ⟨(some 23), .mv (.t 5), none⟩,
              ⟨(some 24), .call 104 [(.t 21), (.t 22), (.t 23)], none⟩,
              ⟨(some 25), .callv (.t 16) [(.t 20), (.t 24)], none⟩,
              ⟨(some 26), .un .not (.t 25), none⟩])
            (.cond (.t 26)
             .ret
             .skip))))))))))) }
theorem f102P : prepF C Try.f102 = some f102A := by kernel_rfl

/-- slices.Concat[[]int,int] -/
def f103A : AFunc :=
{ nargs := 1, res := [.t 2], body :=
  (.seq
   (.reg none [⟨(some 2), .mv (.c .nils), none⟩])
   (.seq
    (.reg none [⟨(some 3), .mv (.c (.int .i64 0)), none⟩])
    (.seq
     (.seq
      (.reg none [⟨(some 9), .mv (.t 0), none⟩,
        ⟨(some 10), .len (.t 9), none⟩,
        ⟨(some 11), .mv (.c (.int .i64 0)), none⟩])
      (.block 0
       (.loop
        (.seq
         (.reg none [⟨(some 12), .bin .lss (.t 11) (.t 10), none⟩])
         (.seq
          (.cond (.t 12)
           .skip
           (.exit 0))
          (.seq
           (.block 1
            (.seq
             (.reg none [⟨(some 13), .iaddr 1 (.t 9) (.t 11), none⟩,
               ⟨(some 14), .load none (.t 13), none⟩,
               ⟨(some 5), .mv (.t 14), none⟩])
             (.seq
              (.reg none [⟨(some 15), .mv (.t 3), none⟩,
                ⟨(some 16), .mv (.t 5), none⟩,
                ⟨(some 17), .len (.t 16), none⟩,
                ⟨(some 18), .bin .add (.t 15) (.t 17), none⟩,
                ⟨(some 3), .mv (.t 18), none⟩])
              (.seq
               (.reg none [⟨(some 19), .mv (.t 3), none⟩,
                 ⟨(some 20), .bin .lss (.t 19) (.c (.int .i64 0)), none⟩])
               (.cond (.t 20)
                (.reg none [⟨(some 21), .bad, none⟩,
                  ⟨none, .bad, none⟩])
                .skip)))))
           (.reg none [⟨(some 22), .bin .add (.t 11) (.c (.int .i64 1)), none⟩,
             ⟨(some 11), .mv (.t 22), none⟩])))))))
     (.seq
      (.reg none [⟨(some 23), .mv (.t 3), none⟩,
        ⟨(some 24), .call 106 [(.c .nils), (.t 23)], none⟩,
        ⟨(some 6), .mv (.t 24), none⟩])
      (.seq
       (.seq
        (.reg none [⟨(some 25), .mv (.t 0), none⟩,
          ⟨(some 26), .len (.t 25), none⟩,
          ⟨(some 27), .mv (.c (.int .i64 0)), none⟩])
        (.block 2
         (.loop
          (.seq
           (.reg none [⟨(some 28), .bin .lss (.t 27) (.t 26), none⟩])
           (.seq
            (.cond (.t 28)
             .skip
             (.exit 2))
            (.seq
             (.block 3
              (.seq
               (.reg none [⟨(some 29), .iaddr 1 (.t 25) (.t 27), none⟩,
                 ⟨(some 30), .load none (.t 29), none⟩,
                 ⟨(some 8), .mv (.t 30), none⟩])
               (.reg none [⟨(some 31), .mv (.t 6), none⟩,
                 ⟨(some 32), .mv (.t 8), none⟩,
                 ⟨(some 33), .append 1 8 (.t 31) (.t 32), none⟩,
                 ⟨(some 6), .mv (.t 33), none⟩])))
             (.reg none [⟨(some 34), .bin .add (.t 27) (.c (.int .i64 1)), none⟩,
               ⟨(some 27), .mv (.t 34), none⟩])))))))
       (.seq
        (.reg none [⟨(some 35), .mv (.t 6), none⟩,
          ⟨(some 2), .mv (.t 35), none⟩])
        .ret)))))) }
theorem f103P : prepF C Try.f103 = some f103A := by kernel_rfl

/-- (congou/arrays.Array).often -/
def f104A : AFunc :=
{ nargs := 3, res := [.t 6], body :=
  (.seq
   (.reg none [⟨(some 3), .box (.t 0), none⟩,
     ⟨(some 6), .mv (.c (.int .i64 0)), none⟩])
   (.seq
    (.reg none [⟨(some 7), .mv (.c (.int .i64 0)), none⟩])
    (.seq
     (.seq
      (.reg none [⟨(some 10), .faddr 1 (.t 3), none⟩,
        ⟨(some 11), .load none (.t 10), none⟩,
        ⟨(some 12), .len (.t 11), none⟩,
        ⟨(some 13), .mv (.c (.int .i64 0)), none⟩])
      (.block 0
       (.loop
        (.seq
         (.reg none [⟨(some 14), .bin .lss (.t 13) (.t 12), none⟩])
         (.seq
          (.cond (.t 14)
           .skip
           (.exit 0))
          (.seq
           (.block 1
            (.seq
             (.reg none [⟨(some 15), .iaddr 1 (.t 11) (.t 13), none⟩,
               ⟨(some 16), .load none (.t 15), none⟩,
               ⟨(some 9), .mv (.t 16), none⟩])
             (.seq
              (.reg none [⟨(some 17), .mv (.t 9), none⟩,
                ⟨(some 18), .mv (.t 1), none⟩,
                ⟨(some 19), .mv (.t 2), none⟩,
                ⟨(some 20), .call 101 [(.t 17), (.t 18), (.t 19)], none⟩])
              (.cond (.t 20)
               (.reg none [⟨(some 21), .mv (.t 7), none⟩,
                 ⟨(some 22), .bin .add (.t 21) (.c (.int .i64 1)), none⟩,
                 ⟨(some 7), .mv (.t 22), none⟩])
               .skip))))
           (.reg none [⟨(some 23), .bin .add (.t 13) (.c (.int .i64 1)), none⟩,
             ⟨(some 13), .mv (.t 23), none⟩])))))))
     (.seq
      (.reg none [⟨(some 24), .mv (.t 7), none⟩,
        ⟨(some 6), .mv (.t 24), none⟩])
      .ret)))) }
theorem f104P : prepF C Try.f104 = some f104A := by kernel_rfl

/-- slices.Grow[[]int,int] -/
def f106A : AFunc :=
{ nargs := 2, res := [.t 4], body :=
  (.seq
   (.reg none [⟨(some 4), .mv (.c .nils), none⟩])
   (.seq
    (.seq
     (.reg none [⟨(some 5), .mv (.t 1), none⟩,
       ⟨(some 6), .bin .lss (.t 5) (.c (.int .i64 0)), none⟩])
     (.cond (.t 6)
      (.reg none [⟨(some 7), .bad, none⟩,
        ⟨none, .bad, none⟩])
      .skip))
    (.seq
     (.seq
      (.reg none [⟨(some 8), .mv (.t 1), none⟩,
        ⟨(some 9), .mv (.t 0), none⟩,
        ⟨(some 10), .cap (.t 9), none⟩,
        ⟨(some 11), .mv (.t 0), none⟩,
        ⟨(some 12), .len (.t 11), none⟩,
        ⟨(some 13), .bin .sub (.t 10) (.t 12), none⟩,
        ⟨(some 14), .bin .sub (.t 8) (.t 13), none⟩,
        ⟨(some 1), .mv (.t 14), none⟩])
      (.seq
       (.reg none [⟨(some 15), .mv (.t 1), none⟩,
         ⟨(some 16), .bin .gtr (.t 15) (.c (.int .i64 0)), none⟩])
       (.cond (.t 16)
        (.reg none [⟨(some 17), .mv (.t 0), none⟩,
          ⟨(some 18), .mv (.t 0), none⟩,
          ⟨(some 19), .cap (.t 18), none⟩,
          ⟨(some 20), .slice 1 (.t 17) none (some (.t 19)) none, none⟩,
          ⟨(some 21), .mv (.t 1), none⟩,
          ⟨(some 22), .appendz 1 8 [(.int .i64 0)] (.t 20) (.t 21), none⟩,
          ⟨(some 23), .mv (.t 0), none⟩,
          ⟨(some 24), .len (.t 23), none⟩,
          ⟨(some 25), .slice 1 (.t 22) none (some (.t 24)) none, none⟩,
          ⟨(some 0), .mv (.t 25), none⟩])
        .skip)))
     (.seq
      (.reg none [⟨(some 26), .mv (.t 0), none⟩,
        ⟨(some 4), .mv (.t 26), none⟩])
      .ret)))) }
theorem f106P : prepF C Try.f106 = some f106A := by kernel_rfl

end Go.Proofs.Ytalaadcbpjnglaa
