/- The abstract forms of the functions that are needed, each checked against the translation. No condition. -/
import Derived.Test.YtalaadcbpjnglaaAm1
import Derived.Test.YtalaadcbpjnglaaProg
namespace Go.Proofs.Ytalaadcbpjnglaa
open Go Go.AM Go.Proofs

/-- the seat's program; the types whose comparison is taken; the functions that may write to what is older -/
def kd : Nat → Kd := fun f => if [79, 81, 96, 97, 102].contains f then .wrt else if [25, 4, 10, 13, 27].contains f then .closed else if f = 80 then .del else .ro
noncomputable def C : Cfg := { P := Try.prog, eqT := fun _ => none, kd := kd }
/-- congou/congoulaw09.ArraysChanges -/
def f5A : AFunc :=
{ nargs := 4, res := [.t 8], body :=
  (.seq
   (.reg none [⟨(some 4), .box (.t 0), none⟩,
     ⟨(some 5), .box (.t 1), none⟩,
     ⟨(some 8), .mv (.c (.b false)), none⟩])
   (.seq
    (.reg (some []) [⟨(some 20), .load (some 2) (.t 4), none⟩,
      ⟨(some 21), .call 32 [(.t 20)], none⟩,
      ⟨(some 22), .load (some 2) (.t 5), none⟩,
      ⟨(some 23), .call 32 [(.t 22)], none⟩,
      ⟨(some 24), .call 31 [(.t 21), (.t 23)], none⟩,
      ⟨(some 19), .mv (.t 24), none⟩,
      ⟨(some 25), .extr (.t 19) 0, none⟩,
      ⟨(some 26), .extr (.t 19) 1, none⟩,
      ⟨(some 9), .alloc [(.int .i64 0), .nils], none⟩,
      ⟨none, .store 2 (.t 9) (.t 25), none⟩,
      ⟨(some 10), .mv (.t 26), none⟩])
    (.seq
     (.reg none [⟨(some 28), .load (some 2) (.t 4), none⟩,
       ⟨(some 29), .call 32 [(.t 28)], none⟩,
       ⟨(some 30), .mv (.t 2), none⟩,
       ⟨(some 31), .call 33 [(.t 29), (.t 30)], none⟩,
       ⟨(some 27), .mv (.t 31), none⟩,
       ⟨(some 32), .extr (.t 27) 0, none⟩,
       ⟨(some 33), .extr (.t 27) 1, none⟩,
       ⟨(some 11), .alloc [(.int .i64 0), .nils], none⟩,
       ⟨none, .store 2 (.t 11) (.t 32), none⟩,
       ⟨(some 12), .mv (.t 33), none⟩])
     (.seq
      (.reg none [⟨(some 35), .load (some 2) (.t 4), none⟩,
        ⟨(some 36), .call 32 [(.t 35)], none⟩,
        ⟨(some 37), .mv (.t 2), none⟩,
        ⟨(some 38), .mv (.t 3), none⟩,
        ⟨(some 39), .call 35 [(.t 38)], none⟩,
        ⟨(some 40), .call 34 [(.t 36), (.t 37), (.t 39)], none⟩,
        ⟨(some 34), .mv (.t 40), none⟩,
        ⟨(some 41), .extr (.t 34) 0, none⟩,
        ⟨(some 42), .extr (.t 34) 1, none⟩,
        ⟨(some 13), .alloc [(.int .i64 0), .nils], none⟩,
        ⟨none, .store 2 (.t 13) (.t 41), none⟩,
        ⟨(some 14), .mv (.t 42), none⟩])
      (.seq
       (.seq
        (.reg none [⟨(some 43), .load (some 2) (.t 4), none⟩,
          ⟨(some 44), .load (some 2) (.t 5), none⟩,
          ⟨(some 45), .call 36 [(.t 43), (.t 44)], none⟩,
          ⟨(some 46), .un .not (.t 45), none⟩])
        (.cond (.t 46)
         (.seq
          (.reg none [⟨(some 47), .load (some 2) (.t 9), none⟩,
            ⟨(some 48), .call 23 [(.t 47)], none⟩,
            ⟨(some 49), .un .not (.t 48), none⟩,
            ⟨(some 50), .mv (.t 49), none⟩,
            ⟨(some 51), .mv (.t 10), some (50, false)⟩,
            ⟨(some 52), .bin .neq (.t 51) (.c (.int .i64 2)), some (50, false)⟩,
            ⟨(some 53), .pick (.t 50) (.c (.b true)) (.t 52), none⟩])
          (.cond (.t 53)
           (.seq
            (.reg none [⟨(some 8), .mv (.c (.b false)), none⟩])
            .ret)
           .skip))
         (.seq
          (.reg none [⟨(some 55), .load (some 2) (.t 4), none⟩,
            ⟨(some 56), .load (some 2) (.t 5), none⟩,
            ⟨(some 57), .call 37 [(.t 55), (.t 56)], none⟩,
            ⟨(some 54), .mv (.t 57), none⟩,
            ⟨(some 58), .extr (.t 54) 0, none⟩,
            ⟨(some 59), .extr (.t 54) 1, none⟩,
            ⟨(some 15), .alloc [(.int .i64 0), .nils], none⟩,
            ⟨none, .store 2 (.t 15) (.t 58), none⟩,
            ⟨(some 16), .mv (.t 59), none⟩])
          (.seq
           (.reg (some []) [⟨(some 60), .load (some 2) (.t 9), none⟩,
             ⟨(some 61), .call 21 [(.t 60)], none⟩,
             ⟨(some 62), .load (some 2) (.t 15), none⟩,
             ⟨(some 63), .call 20 [(.t 61), (.t 62)], none⟩,
             ⟨(some 64), .un .not (.t 63), none⟩,
             ⟨(some 65), .mv (.t 64), none⟩,
             ⟨(some 66), .mv (.t 10), some (65, false)⟩,
             ⟨(some 67), .mv (.t 16), some (65, false)⟩,
             ⟨(some 68), .bin .neq (.t 66) (.t 67), some (65, false)⟩,
             ⟨(some 69), .pick (.t 65) (.c (.b true)) (.t 68), none⟩])
           (.cond (.t 69)
            (.seq
             (.reg none [⟨(some 8), .mv (.c (.b false)), none⟩])
             .ret)
            .skip)))))
       (.seq
        (.seq
         (.reg none [⟨(some 70), .load (some 2) (.t 4), none⟩,
           ⟨(some 71), .call 38 [(.t 70)], none⟩,
           ⟨(some 72), .un .not (.t 71), none⟩,
           ⟨(some 73), .mv (.t 72), none⟩,
           ⟨(some 74), .mv (.t 2), some (73, false)⟩,
           ⟨(some 75), .bin .lss (.t 74) (.c (.int .i64 0)), some (73, false)⟩,
           ⟨(some 76), .pick (.t 73) (.c (.b true)) (.t 75), none⟩,
           ⟨(some 77), .mv (.t 76), none⟩,
           ⟨(some 78), .mv (.t 2), some (77, false)⟩,
           ⟨(some 79), .load (some 2) (.t 4), some (77, false)⟩,
           ⟨(some 80), .call 39 [(.t 79)], some (77, false)⟩,
           ⟨(some 81), .bin .geq (.t 78) (.t 80), some (77, false)⟩,
           ⟨(some 82), .pick (.t 77) (.c (.b true)) (.t 81), none⟩])
         (.cond (.t 82)
          (.seq
           (.reg none [⟨(some 83), .load (some 2) (.t 11), none⟩,
             ⟨(some 84), .call 23 [(.t 83)], none⟩,
             ⟨(some 85), .mv (.t 84), none⟩,
             ⟨(some 86), .load (some 2) (.t 13), some (85, true)⟩,
             ⟨(some 87), .call 23 [(.t 86)], some (85, true)⟩,
             ⟨(some 88), .pick (.t 85) (.t 87) (.c (.b false)), none⟩,
             ⟨(some 89), .mv (.t 88), none⟩,
             ⟨(some 90), .mv (.t 12), some (89, true)⟩,
             ⟨(some 91), .bin .eql (.t 90) (.c (.int .i64 2)), some (89, true)⟩,
             ⟨(some 92), .pick (.t 89) (.t 91) (.c (.b false)), none⟩,
             ⟨(some 93), .mv (.t 92), none⟩,
             ⟨(some 94), .mv (.t 14), some (93, true)⟩,
             ⟨(some 95), .bin .eql (.t 94) (.c (.int .i64 2)), some (93, true)⟩,
             ⟨(some 96), .pick (.t 93) (.t 95) (.c (.b false)), none⟩,
             ⟨(some 97), .mv (.t 96), none⟩,
             ⟨(some 98), .call 25 [], some (97, true)⟩,
             ⟨(some 99), .pick (.t 97) (.t 98) (.c (.b false)), none⟩,
             ⟨(some 8), .mv (.t 99), none⟩])
           .ret)
          .skip))
        (.seq
         (.seq
          (.reg none [⟨(some 101), .load (some 2) (.t 4), none⟩,
            ⟨(some 102), .mv (.t 2), none⟩,
            ⟨(some 103), .call 40 [(.t 101), (.t 102)], none⟩,
            ⟨(some 100), .mv (.t 103), none⟩,
            ⟨(some 104), .extr (.t 100) 0, none⟩,
            ⟨(some 105), .extr (.t 100) 1, none⟩,
            ⟨(some 17), .alloc [(.int .i64 0), .nils], none⟩,
            ⟨none, .store 2 (.t 17) (.t 104), none⟩,
            ⟨(some 18), .mv (.t 105), none⟩])
          (.seq
           (.reg (some []) [⟨(some 106), .load (some 2) (.t 11), none⟩,
             ⟨(some 107), .call 21 [(.t 106)], none⟩,
             ⟨(some 108), .load (some 2) (.t 17), none⟩,
             ⟨(some 109), .call 20 [(.t 107), (.t 108)], none⟩,
             ⟨(some 110), .un .not (.t 109), none⟩,
             ⟨(some 111), .mv (.t 110), none⟩,
             ⟨(some 112), .mv (.t 12), some (111, false)⟩,
             ⟨(some 113), .mv (.t 18), some (111, false)⟩,
             ⟨(some 114), .bin .neq (.t 112) (.t 113), some (111, false)⟩,
             ⟨(some 115), .pick (.t 111) (.c (.b true)) (.t 114), none⟩])
           (.cond (.t 115)
            (.seq
             (.reg none [⟨(some 8), .mv (.c (.b false)), none⟩])
             .ret)
            .skip)))
         (.seq
          (.seq
           (.reg none [⟨(some 116), .faddr 0 (.t 4), none⟩,
             ⟨(some 117), .load none (.t 116), none⟩,
             ⟨(some 118), .mv (.t 3), none⟩,
             ⟨(some 119), .call 41 [(.t 117), (.t 118)], none⟩,
             ⟨(some 120), .un .not (.t 119), none⟩])
           (.cond (.t 120)
            (.seq
             (.reg none [⟨(some 121), .load (some 2) (.t 13), none⟩,
               ⟨(some 122), .call 23 [(.t 121)], none⟩,
               ⟨(some 123), .mv (.t 122), none⟩,
               ⟨(some 124), .mv (.t 14), some (123, true)⟩,
               ⟨(some 125), .bin .eql (.t 124) (.c (.int .i64 2)), some (123, true)⟩,
               ⟨(some 126), .pick (.t 123) (.t 125) (.c (.b false)), none⟩,
               ⟨(some 127), .mv (.t 126), none⟩,
               ⟨(some 128), .call 25 [], some (127, true)⟩,
               ⟨(some 129), .pick (.t 127) (.t 128) (.c (.b false)), none⟩,
               ⟨(some 8), .mv (.t 129), none⟩])
             .ret)
            .skip))
          (.seq
           (.reg (some []) [⟨(some 130), .load (some 2) (.t 13), none⟩,
             ⟨(some 131), .call 21 [(.t 130)], none⟩,
             ⟨(some 132), .load (some 2) (.t 4), none⟩,
             ⟨(some 133), .mv (.t 2), none⟩,
             ⟨(some 134), .mv (.t 3), none⟩,
             ⟨(some 135), .call 42 [(.t 132), (.t 133), (.t 134)], none⟩,
             ⟨(some 136), .call 20 [(.t 131), (.t 135)], none⟩,
             ⟨(some 137), .mv (.t 136), none⟩,
             ⟨(some 138), .mv (.t 14), some (137, true)⟩,
             ⟨(some 139), .bin .eql (.t 138) (.c (.int .i64 0)), some (137, true)⟩,
             ⟨(some 140), .pick (.t 137) (.t 139) (.c (.b false)), none⟩,
             ⟨(some 141), .mv (.t 140), none⟩,
             ⟨(some 142), .call 25 [], some (141, true)⟩,
             ⟨(some 143), .pick (.t 141) (.t 142) (.c (.b false)), none⟩,
             ⟨(some 8), .mv (.t 143), none⟩])
           .ret))))))))) }
theorem f5P : prepF C Try.f5 = some f5A := by kernel_rfl

/-- congou/congouref09.Same -/
def f20A : AFunc :=
{ nargs := 2, res := [.t 4], body :=
  (.seq
   (.reg none [⟨(some 2), .box (.t 0), none⟩,
     ⟨(some 3), .box (.t 1), none⟩,
     ⟨(some 4), .mv (.c (.b false)), none⟩])
   (.seq
    (.seq
     (.reg none [⟨(some 9), .faddr 0 (.t 2), none⟩,
       ⟨(some 10), .load none (.t 9), none⟩,
       ⟨(some 11), .faddr 0 (.t 3), none⟩,
       ⟨(some 12), .load none (.t 11), none⟩,
       ⟨(some 13), .bin .neq (.t 10) (.t 12), none⟩,
       ⟨(some 14), .mv (.t 13), none⟩,
       ⟨(some 15), .faddr 1 (.t 2), some (14, false)⟩,
       ⟨(some 16), .load none (.t 15), some (14, false)⟩,
       ⟨(some 17), .len (.t 16), some (14, false)⟩,
       ⟨(some 18), .faddr 1 (.t 3), some (14, false)⟩,
       ⟨(some 19), .load none (.t 18), some (14, false)⟩,
       ⟨(some 20), .len (.t 19), some (14, false)⟩,
       ⟨(some 21), .bin .neq (.t 17) (.t 20), some (14, false)⟩,
       ⟨(some 22), .pick (.t 14) (.c (.b true)) (.t 21), none⟩])
     (.cond (.t 22)
      (.seq
       (.reg none [⟨(some 4), .mv (.c (.b false)), none⟩])
       .ret)
      .skip))
    (.seq
     (.seq
      (.reg none [⟨(some 23), .faddr 1 (.t 2), none⟩,
        ⟨(some 24), .load none (.t 23), none⟩,
        ⟨(some 25), .len (.t 24), none⟩,
        ⟨(some 26), .mv (.c (.int .i64 0)), none⟩])
      (.block 0
       (.loop
        (.seq
         (.reg none [⟨(some 27), .bin .lss (.t 26) (.t 25), none⟩])
         (.seq
          (.cond (.t 27)
           .skip
           (.exit 0))
          (.seq
           (.block 1
            (.seq
             (.reg none [⟨(some 28), .mv (.t 26), none⟩,
               ⟨(some 29), .iaddr 1 (.t 24) (.t 26), none⟩,
               ⟨(some 30), .load none (.t 29), none⟩,
               ⟨(some 5), .mv (.t 28), none⟩,
               ⟨(some 6), .mv (.t 30), none⟩])
             (.seq
              (.seq
               (.reg none [⟨(some 31), .mv (.t 6), none⟩,
                 ⟨(some 32), .len (.t 31), none⟩,
                 ⟨(some 33), .faddr 1 (.t 3), none⟩,
                 ⟨(some 34), .load none (.t 33), none⟩,
                 ⟨(some 35), .mv (.t 5), none⟩,
                 ⟨(some 36), .iaddr 1 (.t 34) (.t 35), none⟩,
                 ⟨(some 37), .load none (.t 36), none⟩,
                 ⟨(some 38), .len (.t 37), none⟩,
                 ⟨(some 39), .bin .neq (.t 32) (.t 38), none⟩])
               (.cond (.t 39)
                (.seq
                 (.reg none [⟨(some 4), .mv (.c (.b false)), none⟩])
                 .ret)
                .skip))
              (.seq
               (.reg none [⟨(some 40), .mv (.t 6), none⟩,
                 ⟨(some 41), .len (.t 40), none⟩,
                 ⟨(some 42), .mv (.c (.int .i64 0)), none⟩])
               (.block 2
                (.loop
                 (.seq
                  (.reg none [⟨(some 43), .bin .lss (.t 42) (.t 41), none⟩])
                  (.seq
                   (.cond (.t 43)
                    .skip
                    (.exit 2))
                   (.seq
                    (.block 3
                     (.seq
                      (.reg none [⟨(some 44), .mv (.t 42), none⟩,
                        ⟨(some 45), .iaddr 1 (.t 40) (.t 42), none⟩,
                        ⟨(some 46), .load none (.t 45), none⟩,
                        ⟨(some 7), .mv (.t 44), none⟩,
                        ⟨(some 8), .mv (.t 46), none⟩])
                      (.seq
                       (.reg none [⟨(some 47), .mv (.t 8), none⟩,
                         ⟨(some 48), .faddr 1 (.t 3), none⟩,
                         ⟨(some 49), .load none (.t 48), none⟩,
                         ⟨(some 50), .mv (.t 5), none⟩,
                         ⟨(some 51), .iaddr 1 (.t 49) (.t 50), none⟩,
                         ⟨(some 52), .load none (.t 51), none⟩,
                         ⟨(some 53), .mv (.t 7), none⟩,
                         ⟨(some 54), .iaddr 1 (.t 52) (.t 53), none⟩,
                         ⟨(some 55), .load none (.t 54), none⟩,
                         ⟨(some 56), .bin .neq (.t 47) (.t 55), none⟩])
                       (.cond (.t 56)
                        (.seq
                         (.reg none [⟨(some 4), .mv (.c (.b false)), none⟩])
                         .ret)
                        .skip))))
                    (.reg none [⟨(some 57), .bin .add (.t 42) (.c (.int .i64 1)), none⟩,
                      ⟨(some 42), .mv (.t 57), none⟩]))))))))))
           (.reg none [⟨(some 58), .bin .add (.t 26) (.c (.int .i64 1)), none⟩,
             ⟨(some 26), .mv (.t 58), none⟩])))))))
     (.seq
      (.reg none [⟨(some 4), .mv (.c (.b true)), none⟩])
      .ret)))) }
theorem f20P : prepF C Try.f20 = some f20A := by kernel_rfl

/-- congou/congoulaw09.own -/
def f21A : AFunc :=
{ nargs := 1, res := [.c 2 (some 2)], body :=
  (.seq
   (.reg none [⟨(some 1), .box (.t 0), none⟩,
     ⟨(some 2), .alloc [(.int .i64 0), .nils], none⟩])
   (.seq
    (.reg none [⟨(some 3), .faddr 0 (.t 1), none⟩,
      ⟨(some 4), .load none (.t 3), none⟩,
      ⟨(some 5), .faddr 1 (.t 1), none⟩,
      ⟨(some 6), .load none (.t 5), none⟩,
      ⟨(some 7), .build [(.int .i64 0), .nils] [(0, 1, (.t 4)), (1, 1, (.t 6))], none⟩,
      ⟨none, .store 2 (.t 2) (.t 7), none⟩])
    .ret)) }
theorem f21P : prepF C Try.f21 = some f21A := by kernel_rfl

/-- congou/congoulaw09.nothing -/
def f23A : AFunc :=
{ nargs := 1, res := [.t 2], body :=
  (.seq
   (.reg none [⟨(some 1), .box (.t 0), none⟩,
     ⟨(some 2), .mv (.c (.b false)), none⟩])
   (.seq
    (.reg none [⟨(some 3), .faddr 0 (.t 1), none⟩,
      ⟨(some 4), .load none (.t 3), none⟩,
      ⟨(some 5), .bin .eql (.t 4) (.c (.int .i64 0)), none⟩,
      ⟨(some 6), .mv (.t 5), none⟩,
      ⟨(some 7), .faddr 1 (.t 1), some (6, true)⟩,
      ⟨(some 8), .load none (.t 7), some (6, true)⟩,
      ⟨(some 9), .len (.t 8), some (6, true)⟩,
      ⟨(some 10), .bin .eql (.t 9) (.c (.int .i64 0)), some (6, true)⟩,
      ⟨(some 11), .pick (.t 6) (.t 10) (.c (.b false)), none⟩,
      ⟨(some 2), .mv (.t 11), none⟩])
    .ret)) }
theorem f23P : prepF C Try.f23 = some f23A := by kernel_rfl

/-- congou/congoulaw09.awake -/
def f25A : AFunc :=
{ nargs := 0, res := [.t 0], body :=
  (.seq
   (.reg none [⟨(some 0), .mv (.c (.b false)), none⟩])
   (.seq
    (.reg none [⟨(some 4), .bslice [(.int .i64 0)] 3 1 [(0, (.c (.int .i64 0))), (1, (.c (.int .i64 0))), (2, (.c (.int .i64 1)))], none⟩,
      ⟨(some 5), .bslice [(.int .i64 0)] 3 1 [(0, (.c (.int .i64 1))), (1, (.c (.int .i64 0))), (2, (.c (.int .i64 0)))], none⟩,
      ⟨(some 6), .bslice [.nils] 2 1 [(0, (.t 4)), (1, (.t 5))], none⟩,
      ⟨(some 7), .build [(.int .i64 0), .nils] [(0, 1, (.c (.int .i64 2))), (1, 1, (.t 6))], none⟩,
      ⟨(some 8), .call 47 [(.t 7)], none⟩,
      ⟨(some 3), .mv (.t 8), none⟩,
      ⟨(some 9), .extr (.t 3) 0, none⟩,
      ⟨(some 10), .extr (.t 3) 1, none⟩,
      ⟨(some 1), .mv (.t 9), none⟩,
      ⟨(some 2), .mv (.t 10), none⟩])
    (.seq
     (.reg none [⟨(some 11), .mv (.t 1), none⟩,
       ⟨(some 12), .bin .eql (.t 11) (.c (.int .i64 2)), none⟩,
       ⟨(some 13), .mv (.t 12), none⟩,
       ⟨(some 14), .mv (.t 2), some (13, true)⟩,
       ⟨(some 15), .bin .eql (.t 14) (.c (.int .i64 0)), some (13, true)⟩,
       ⟨(some 16), .pick (.t 13) (.t 15) (.c (.b false)), none⟩,
       ⟨(some 0), .mv (.t 16), none⟩])
     .ret))) }
theorem f25P : prepF C Try.f25 = some f25A := by kernel_rfl

/-- congou/arrays.Both -/
def f31A : AFunc :=
{ nargs := 2, res := [.c 4 (some 2), .t 5], body :=
  (.seq
   (.reg none [⟨(some 2), .box (.t 0), none⟩,
     ⟨(some 3), .box (.t 1), none⟩,
     ⟨(some 4), .alloc [(.int .i64 0), .nils], none⟩,
     ⟨(some 5), .mv (.c (.int .i64 0)), none⟩])
   (.seq
    (.seq
     (.reg (some []) [⟨(some 7), .load (some 2) (.t 2), none⟩,
       ⟨(some 8), .call 74 [(.t 7)], none⟩,
       ⟨(some 9), .un .not (.t 8), none⟩,
       ⟨(some 10), .mv (.t 9), none⟩,
       ⟨(some 11), .load (some 2) (.t 3), some (10, false)⟩,
       ⟨(some 12), .call 74 [(.t 11)], some (10, false)⟩,
       ⟨(some 13), .un .not (.t 12), some (10, false)⟩,
       ⟨(some 14), .pick (.t 10) (.c (.b true)) (.t 13), none⟩,
       ⟨(some 15), .mv (.t 14), none⟩,
       ⟨(some 16), .faddr 0 (.t 2), some (15, false)⟩,
       ⟨(some 17), .load none (.t 16), some (15, false)⟩,
       ⟨(some 18), .faddr 0 (.t 3), some (15, false)⟩,
       ⟨(some 19), .load none (.t 18), some (15, false)⟩,
       ⟨(some 20), .bin .neq (.t 17) (.t 19), some (15, false)⟩,
       ⟨(some 21), .pick (.t 15) (.c (.b true)) (.t 20), none⟩,
       ⟨(some 22), .mv (.t 21), none⟩,
       ⟨(some 23), .load (some 2) (.t 2), some (22, false)⟩,
       ⟨(some 24), .call 75 [(.t 23)], some (22, false)⟩,
       ⟨(some 25), .load (some 2) (.t 3), some (22, false)⟩,
       ⟨(some 26), .call 75 [(.t 25)], some (22, false)⟩,
       ⟨(some 27), .bin .neq (.t 24) (.t 26), some (22, false)⟩,
       ⟨(some 28), .pick (.t 22) (.c (.b true)) (.t 27), none⟩])
     (.cond (.t 28)
      (.seq
       (.reg none [⟨(some 29), .build [(.int .i64 0), .nils] [], none⟩,
         ⟨none, .store 2 (.t 4) (.t 29), none⟩,
         ⟨(some 5), .mv (.c (.int .i64 2)), none⟩])
       .ret)
      .skip))
    (.seq
     (.reg (some []) [⟨(some 30), .faddr 0 (.t 2), none⟩,
       ⟨(some 31), .load none (.t 30), none⟩,
       ⟨(some 32), .faddr 1 (.t 2), none⟩,
       ⟨(some 33), .load none (.t 32), none⟩,
       ⟨(some 34), .faddr 1 (.t 3), none⟩,
       ⟨(some 35), .load none (.t 34), none⟩,
       ⟨(some 36), .bslice [.nils] 2 1 [(0, (.t 33)), (1, (.t 35))], none⟩,
       ⟨(some 37), .call 76 [(.t 36)], none⟩,
       ⟨(some 38), .build [(.int .i64 0), .nils] [(0, 1, (.t 31)), (1, 1, (.t 37))], none⟩,
       ⟨(some 6), .alloc [(.int .i64 0), .nils], none⟩,
       ⟨none, .store 2 (.t 6) (.t 38), none⟩])
     (.seq
      (.seq
       (.reg none [⟨(some 39), .faddr 1 (.t 6), none⟩,
         ⟨(some 40), .load none (.t 39), none⟩,
         ⟨(some 41), .len (.t 40), none⟩,
         ⟨(some 42), .bin .gtr (.t 41) (.c (.int .i64 16)), none⟩])
       (.cond (.t 42)
        (.seq
         (.reg none [⟨(some 43), .build [(.int .i64 0), .nils] [], none⟩,
           ⟨none, .store 2 (.t 4) (.t 43), none⟩,
           ⟨(some 5), .mv (.c (.int .i64 6)), none⟩])
         .ret)
        .skip))
      (.seq
       (.reg none [⟨(some 44), .load (some 2) (.t 6), none⟩,
         ⟨(some 45), .call 77 [(.t 44), (.c (.fn 78 [] []))], none⟩,
         ⟨none, .store 2 (.t 4) (.t 45), none⟩,
         ⟨(some 5), .mv (.c (.int .i64 0)), none⟩])
       .ret))))) }
theorem f31P : prepF C Try.f31 = some f31A := by kernel_rfl

/-- congou/congoulaw09.Of -/
def f32A : AFunc :=
{ nargs := 1, res := [.c 2 (some 2)], body :=
  (.seq
   (.reg none [⟨(some 1), .box (.t 0), none⟩,
     ⟨(some 2), .alloc [(.int .i64 0), .nils], none⟩])
   (.seq
    (.reg none [⟨(some 6), .faddr 0 (.t 1), none⟩,
      ⟨(some 7), .load none (.t 6), none⟩,
      ⟨(some 8), .build [(.int .i64 0), .nils] [(0, 1, (.t 7))], none⟩,
      ⟨(some 3), .alloc [(.int .i64 0), .nils], none⟩,
      ⟨none, .store 2 (.t 3) (.t 8), none⟩])
    (.seq
     (.seq
      (.reg none [⟨(some 9), .faddr 1 (.t 1), none⟩,
        ⟨(some 10), .load none (.t 9), none⟩,
        ⟨(some 11), .len (.t 10), none⟩,
        ⟨(some 12), .mv (.c (.int .i64 0)), none⟩])
      (.block 0
       (.loop
        (.seq
         (.reg none [⟨(some 13), .bin .lss (.t 12) (.t 11), none⟩])
         (.seq
          (.cond (.t 13)
           .skip
           (.exit 0))
          (.seq
           (.block 1
            (.seq
             (.reg none [⟨(some 14), .mv (.t 12), none⟩,
               ⟨(some 15), .iaddr 1 (.t 10) (.t 12), none⟩,
               ⟨(some 16), .load none (.t 15), none⟩,
               ⟨(some 4), .mv (.t 14), none⟩,
               ⟨(some 5), .mv (.t 16), none⟩])
             (.seq
              (.reg none [⟨(some 17), .mv (.t 4), none⟩,
                ⟨(some 18), .bin .lss (.t 17) (.c (.int .i64 19)), none⟩])
              (.cond (.t 18)
               (.reg (some []) [⟨(some 19), .faddr 1 (.t 3), none⟩,
                 ⟨(some 20), .load none (.t 19), none⟩,
                 ⟨(some 21), .mv (.t 5), none⟩,
                 ⟨(some 22), .call 35 [(.t 21)], none⟩,
                 ⟨(some 23), .bslice [.nils] 1 1 [(0, (.t 22))], none⟩,
                 ⟨(some 24), .append 1 24 (.t 20) (.t 23), none⟩,
                 ⟨(some 25), .faddr 1 (.t 3), none⟩,
                 ⟨none, .store 1 (.t 25) (.t 24), none⟩])
               .skip))))
           (.reg none [⟨(some 26), .bin .add (.t 12) (.c (.int .i64 1)), none⟩,
             ⟨(some 12), .mv (.t 26), none⟩])))))))
     (.seq
      (.reg none [⟨(some 27), .load (some 2) (.t 3), none⟩,
        ⟨none, .store 2 (.t 2) (.t 27), none⟩])
      .ret)))) }
theorem f32P : prepF C Try.f32 = some f32A := by kernel_rfl

/-- congou/arrays.Drop -/
def f33A : AFunc :=
{ nargs := 2, res := [.c 4 (some 2), .t 5], body :=
  (.seq
   (.reg none [⟨(some 2), .box (.t 0), none⟩,
     ⟨(some 3), .box (.t 1), none⟩,
     ⟨(some 4), .alloc [(.int .i64 0), .nils], none⟩,
     ⟨(some 5), .mv (.c (.int .i64 0)), none⟩])
   (.seq
    (.block 0
     (.seq
      (.reg (some []) [⟨(some 7), .load (some 2) (.t 2), none⟩,
        ⟨(some 8), .call 74 [(.t 7)], none⟩,
        ⟨(some 9), .un .not (.t 8), none⟩,
        ⟨(some 10), .mv (.t 9), none⟩,
        ⟨(some 11), .load none (.t 3), some (10, false)⟩,
        ⟨(some 12), .bin .lss (.t 11) (.c (.int .i64 0)), some (10, false)⟩,
        ⟨(some 13), .pick (.t 10) (.c (.b true)) (.t 12), none⟩,
        ⟨(some 14), .mv (.t 13), none⟩,
        ⟨(some 15), .load none (.t 3), some (14, false)⟩,
        ⟨(some 16), .load (some 2) (.t 2), some (14, false)⟩,
        ⟨(some 17), .call 75 [(.t 16)], some (14, false)⟩,
        ⟨(some 18), .bin .geq (.t 15) (.t 17), some (14, false)⟩,
        ⟨(some 19), .pick (.t 14) (.c (.b true)) (.t 18), none⟩,
        ⟨(some 6), .mv (.t 19), none⟩])
      (.cond (.t 6)
       (.seq
        (.reg none [⟨(some 20), .build [(.int .i64 0), .nils] [], none⟩,
          ⟨none, .store 2 (.t 4) (.t 20), none⟩,
          ⟨(some 5), .mv (.c (.int .i64 2)), none⟩])
        .ret)
       (.seq
        (.reg none [⟨(some 22), .load (some 2) (.t 2), none⟩,
          ⟨(some 23), .call 75 [(.t 22)], none⟩,
          ⟨(some 24), .bin .eql (.t 23) (.c (.int .i64 1)), none⟩,
          ⟨(some 21), .mv (.t 24), none⟩])
        (.cond (.t 21)
         (.seq
          (.reg none [⟨(some 25), .build [(.int .i64 0), .nils] [], none⟩,
            ⟨none, .store 2 (.t 4) (.t 25), none⟩,
            ⟨(some 5), .mv (.c (.int .i64 4)), none⟩])
          .ret)
         .skip)))))
    (.seq
     (.reg none [⟨(some 26), .load (some 2) (.t 2), none⟩,
       ⟨(some 27), .mkfn 79 [] [(.t 3)], none⟩,
       ⟨(some 28), .call 77 [(.t 26), (.t 27)], none⟩,
       ⟨none, .store 2 (.t 4) (.t 28), none⟩,
       ⟨(some 5), .mv (.c (.int .i64 0)), none⟩])
     .ret))) }
theorem f33P : prepF C Try.f33 = some f33A := by kernel_rfl

/-- congou/arrays.Rename -/
def f34A : AFunc :=
{ nargs := 3, res := [.c 6 (some 2), .t 7], body :=
  (.seq
   (.reg none [⟨(some 3), .box (.t 0), none⟩,
     ⟨(some 4), .box (.t 1), none⟩,
     ⟨(some 5), .box (.t 2), none⟩,
     ⟨(some 6), .alloc [(.int .i64 0), .nils], none⟩,
     ⟨(some 7), .mv (.c (.int .i64 0)), none⟩])
   (.seq
    (.seq
     (.reg (some []) [⟨(some 9), .load (some 2) (.t 3), none⟩,
       ⟨(some 10), .call 74 [(.t 9)], none⟩,
       ⟨(some 11), .un .not (.t 10), none⟩,
       ⟨(some 12), .mv (.t 11), none⟩,
       ⟨(some 13), .load none (.t 4), some (12, false)⟩,
       ⟨(some 14), .bin .lss (.t 13) (.c (.int .i64 0)), some (12, false)⟩,
       ⟨(some 15), .pick (.t 12) (.c (.b true)) (.t 14), none⟩,
       ⟨(some 16), .mv (.t 15), none⟩,
       ⟨(some 17), .load none (.t 4), some (16, false)⟩,
       ⟨(some 18), .load (some 2) (.t 3), some (16, false)⟩,
       ⟨(some 19), .call 75 [(.t 18)], some (16, false)⟩,
       ⟨(some 20), .bin .geq (.t 17) (.t 19), some (16, false)⟩,
       ⟨(some 21), .pick (.t 16) (.c (.b true)) (.t 20), none⟩,
       ⟨(some 22), .mv (.t 21), none⟩,
       ⟨(some 23), .load none (.t 5), some (22, false)⟩,
       ⟨(some 24), .len (.t 23), some (22, false)⟩,
       ⟨(some 25), .faddr 0 (.t 3), some (22, false)⟩,
       ⟨(some 26), .load none (.t 25), some (22, false)⟩,
       ⟨(some 27), .bin .neq (.t 24) (.t 26), some (22, false)⟩,
       ⟨(some 28), .pick (.t 22) (.c (.b true)) (.t 27), none⟩])
     (.cond (.t 28)
      (.seq
       (.reg none [⟨(some 29), .build [(.int .i64 0), .nils] [], none⟩,
         ⟨none, .store 2 (.t 6) (.t 29), none⟩,
         ⟨(some 7), .mv (.c (.int .i64 2)), none⟩])
       .ret)
      .skip))
    (.seq
     (.seq
      (.reg none [⟨(some 30), .load none (.t 5), none⟩,
        ⟨(some 31), .len (.t 30), none⟩,
        ⟨(some 32), .mv (.c (.int .i64 0)), none⟩])
      (.block 0
       (.loop
        (.seq
         (.reg none [⟨(some 33), .bin .lss (.t 32) (.t 31), none⟩])
         (.seq
          (.cond (.t 33)
           .skip
           (.exit 0))
          (.seq
           (.block 1
            (.seq
             (.reg none [⟨(some 34), .mv (.t 32), none⟩,
               ⟨(some 8), .mv (.t 34), none⟩])
             (.seq
              (.reg none [⟨(some 35), .load none (.t 5), none⟩,
                ⟨(some 36), .mv (.t 8), none⟩,
                ⟨(some 37), .call 62 [(.t 35), (.t 36)], none⟩,
                ⟨(some 38), .un .not (.t 37), none⟩])
              (.cond (.t 38)
               (.seq
                (.reg none [⟨(some 39), .build [(.int .i64 0), .nils] [], none⟩,
                  ⟨none, .store 2 (.t 6) (.t 39), none⟩,
                  ⟨(some 7), .mv (.c (.int .i64 2)), none⟩])
                .ret)
               .skip))))
           (.reg none [⟨(some 40), .bin .add (.t 32) (.c (.int .i64 1)), none⟩,
             ⟨(some 32), .mv (.t 40), none⟩])))))))
     (.seq
      (.reg none [⟨(some 41), .load (some 2) (.t 3), none⟩,
        ⟨(some 42), .mkfn 81 [] [(.t 5), (.t 4)], none⟩,
        ⟨(some 43), .call 77 [(.t 41), (.t 42)], none⟩,
        ⟨none, .store 2 (.t 6) (.t 43), none⟩,
        ⟨(some 7), .mv (.c (.int .i64 0)), none⟩])
      .ret)))) }
theorem f34P : prepF C Try.f34 = some f34A := by kernel_rfl

/-- congou/congoulaw09.list -/
def f35A : AFunc :=
{ nargs := 1, res := [.t 2], body :=
  (.seq
   (.reg none [⟨(some 2), .mv (.c .nils), none⟩])
   (.seq
    (.reg none [⟨(some 3), .mv (.t 0), none⟩,
      ⟨(some 4), .mv (.t 0), none⟩,
      ⟨(some 5), .len (.t 4), none⟩,
      ⟨(some 6), .mn [(.t 5), (.c (.int .i64 11))], none⟩,
      ⟨(some 7), .slice 1 (.t 3) none (some (.t 6)) none, none⟩,
      ⟨(some 8), .call 82 [(.t 7)], none⟩,
      ⟨(some 2), .mv (.t 8), none⟩])
    .ret)) }
theorem f35P : prepF C Try.f35 = some f35A := by kernel_rfl

/-- congou/congouref09.Alike -/
def f36A : AFunc :=
{ nargs := 2, res := [.t 4], body :=
  (.seq
   (.reg none [⟨(some 2), .box (.t 0), none⟩,
     ⟨(some 3), .box (.t 1), none⟩,
     ⟨(some 4), .mv (.c (.b false)), none⟩])
   (.seq
    (.reg (some []) [⟨(some 5), .load (some 2) (.t 2), none⟩,
      ⟨(some 6), .call 38 [(.t 5)], none⟩,
      ⟨(some 7), .mv (.t 6), none⟩,
      ⟨(some 8), .load (some 2) (.t 3), some (7, true)⟩,
      ⟨(some 9), .call 38 [(.t 8)], some (7, true)⟩,
      ⟨(some 10), .pick (.t 7) (.t 9) (.c (.b false)), none⟩,
      ⟨(some 11), .mv (.t 10), none⟩,
      ⟨(some 12), .faddr 0 (.t 2), some (11, true)⟩,
      ⟨(some 13), .load none (.t 12), some (11, true)⟩,
      ⟨(some 14), .faddr 0 (.t 3), some (11, true)⟩,
      ⟨(some 15), .load none (.t 14), some (11, true)⟩,
      ⟨(some 16), .bin .eql (.t 13) (.t 15), some (11, true)⟩,
      ⟨(some 17), .pick (.t 11) (.t 16) (.c (.b false)), none⟩,
      ⟨(some 18), .mv (.t 17), none⟩,
      ⟨(some 19), .load (some 2) (.t 2), some (18, true)⟩,
      ⟨(some 20), .call 39 [(.t 19)], some (18, true)⟩,
      ⟨(some 21), .load (some 2) (.t 3), some (18, true)⟩,
      ⟨(some 22), .call 39 [(.t 21)], some (18, true)⟩,
      ⟨(some 23), .bin .eql (.t 20) (.t 22), some (18, true)⟩,
      ⟨(some 24), .pick (.t 18) (.t 23) (.c (.b false)), none⟩,
      ⟨(some 4), .mv (.t 24), none⟩])
    .ret)) }
theorem f36P : prepF C Try.f36 = some f36A := by kernel_rfl

/-- congou/congouref09.Both -/
def f37A : AFunc :=
{ nargs := 2, res := [.c 4 (some 2), .t 5], body :=
  (.seq
   (.reg none [⟨(some 2), .box (.t 0), none⟩,
     ⟨(some 3), .box (.t 1), none⟩,
     ⟨(some 4), .alloc [(.int .i64 0), .nils], none⟩,
     ⟨(some 5), .mv (.c (.int .i64 0)), none⟩])
   (.seq
    (.seq
     (.reg none [⟨(some 6), .faddr 1 (.t 2), none⟩,
       ⟨(some 7), .load none (.t 6), none⟩,
       ⟨(some 8), .len (.t 7), none⟩,
       ⟨(some 9), .faddr 1 (.t 3), none⟩,
       ⟨(some 10), .load none (.t 9), none⟩,
       ⟨(some 11), .len (.t 10), none⟩,
       ⟨(some 12), .bin .add (.t 8) (.t 11), none⟩,
       ⟨(some 13), .bin .gtr (.t 12) (.c (.int .i64 16)), none⟩])
     (.cond (.t 13)
      (.seq
       (.reg none [⟨(some 14), .build [(.int .i64 0), .nils] [], none⟩,
         ⟨none, .store 2 (.t 4) (.t 14), none⟩,
         ⟨(some 5), .mv (.c (.int .i64 6)), none⟩])
       .ret)
      .skip))
    (.seq
     (.reg (some [(1, 8)]) [⟨(some 15), .faddr 0 (.t 2), none⟩,
       ⟨(some 16), .load none (.t 15), none⟩,
       ⟨(some 17), .faddr 1 (.t 2), none⟩,
       ⟨(some 18), .load none (.t 17), none⟩,
       ⟨(some 19), .call 83 [(.t 18)], none⟩,
       ⟨(some 20), .faddr 1 (.t 3), none⟩,
       ⟨(some 21), .load none (.t 20), none⟩,
       ⟨(some 22), .call 83 [(.t 21)], none⟩,
       ⟨(some 23), .append 1 24 (.t 19) (.t 22), none⟩,
       ⟨(some 24), .build [(.int .i64 0), .nils] [(0, 1, (.t 16)), (1, 1, (.t 23))], none⟩,
       ⟨none, .store 2 (.t 4) (.t 24), none⟩,
       ⟨(some 5), .mv (.c (.int .i64 0)), none⟩])
     .ret))) }
theorem f37P : prepF C Try.f37 = some f37A := by kernel_rfl

/-- congou/congouref09.Valid -/
def f38A : AFunc :=
{ nargs := 1, res := [.t 2], body :=
  (.seq
   (.reg none [⟨(some 1), .box (.t 0), none⟩,
     ⟨(some 2), .mv (.c (.b false)), none⟩])
   (.seq
    (.seq
     (.reg none [⟨(some 7), .faddr 0 (.t 1), none⟩,
       ⟨(some 8), .load none (.t 7), none⟩,
       ⟨(some 9), .bin .lss (.t 8) (.c (.int .i64 2)), none⟩,
       ⟨(some 10), .mv (.t 9), none⟩,
       ⟨(some 11), .faddr 0 (.t 1), some (10, false)⟩,
       ⟨(some 12), .load none (.t 11), some (10, false)⟩,
       ⟨(some 13), .bin .gtr (.t 12) (.c (.int .i64 4)), some (10, false)⟩,
       ⟨(some 14), .pick (.t 10) (.c (.b true)) (.t 13), none⟩,
       ⟨(some 15), .mv (.t 14), none⟩,
       ⟨(some 16), .faddr 1 (.t 1), some (15, false)⟩,
       ⟨(some 17), .load none (.t 16), some (15, false)⟩,
       ⟨(some 18), .len (.t 17), some (15, false)⟩,
       ⟨(some 19), .bin .lss (.t 18) (.c (.int .i64 1)), some (15, false)⟩,
       ⟨(some 20), .pick (.t 15) (.c (.b true)) (.t 19), none⟩,
       ⟨(some 21), .mv (.t 20), none⟩,
       ⟨(some 22), .faddr 1 (.t 1), some (21, false)⟩,
       ⟨(some 23), .load none (.t 22), some (21, false)⟩,
       ⟨(some 24), .len (.t 23), some (21, false)⟩,
       ⟨(some 25), .bin .gtr (.t 24) (.c (.int .i64 16)), some (21, false)⟩,
       ⟨(some 26), .pick (.t 21) (.c (.b true)) (.t 25), none⟩])
     (.cond (.t 26)
      (.seq
       (.reg none [⟨(some 2), .mv (.c (.b false)), none⟩])
       .ret)
      .skip))
    (.seq
     (.seq
      (.reg none [⟨(some 27), .faddr 1 (.t 1), none⟩,
        ⟨(some 28), .load none (.t 27), none⟩,
        ⟨(some 29), .len (.t 28), none⟩,
        ⟨(some 30), .mv (.c (.int .i64 0)), none⟩])
      (.block 0
       (.loop
        (.seq
         (.reg none [⟨(some 31), .bin .lss (.t 30) (.t 29), none⟩])
         (.seq
          (.cond (.t 31)
           .skip
           (.exit 0))
          (.seq
           (.block 1
            (.seq
             (.reg none [⟨(some 32), .iaddr 1 (.t 28) (.t 30), none⟩,
               ⟨(some 33), .load none (.t 32), none⟩,
               ⟨(some 4), .mv (.t 33), none⟩])
             (.seq
              (.seq
               (.reg none [⟨(some 34), .mv (.t 4), none⟩,
                 ⟨(some 35), .len (.t 34), none⟩,
                 ⟨(some 36), .faddr 1 (.t 1), none⟩,
                 ⟨(some 37), .load none (.t 36), none⟩,
                 ⟨(some 38), .iaddr 1 (.t 37) (.c (.int .i64 0)), none⟩,
                 ⟨(some 39), .load none (.t 38), none⟩,
                 ⟨(some 40), .len (.t 39), none⟩,
                 ⟨(some 41), .bin .neq (.t 35) (.t 40), none⟩,
                 ⟨(some 42), .mv (.t 41), none⟩,
                 ⟨(some 43), .mv (.t 4), some (42, false)⟩,
                 ⟨(some 44), .len (.t 43), some (42, false)⟩,
                 ⟨(some 45), .bin .lss (.t 44) (.c (.int .i64 1)), some (42, false)⟩,
                 ⟨(some 46), .pick (.t 42) (.c (.b true)) (.t 45), none⟩,
                 ⟨(some 47), .mv (.t 46), none⟩,
                 ⟨(some 48), .mv (.t 4), some (47, false)⟩,
                 ⟨(some 49), .len (.t 48), some (47, false)⟩,
                 ⟨(some 50), .bin .gtr (.t 49) (.c (.int .i64 8)), some (47, false)⟩,
                 ⟨(some 51), .pick (.t 47) (.c (.b true)) (.t 50), none⟩])
               (.cond (.t 51)
                (.seq
                 (.reg none [⟨(some 2), .mv (.c (.b false)), none⟩])
                 .ret)
                .skip))
              (.seq
               (.reg none [⟨(some 52), .mv (.t 4), none⟩,
                 ⟨(some 53), .len (.t 52), none⟩,
                 ⟨(some 54), .mv (.c (.int .i64 0)), none⟩])
               (.block 2
                (.loop
                 (.seq
                  (.reg none [⟨(some 55), .bin .lss (.t 54) (.t 53), none⟩])
                  (.seq
                   (.cond (.t 55)
                    .skip
                    (.exit 2))
                   (.seq
                    (.block 3
                     (.seq
                      (.reg none [⟨(some 56), .iaddr 1 (.t 52) (.t 54), none⟩,
                        ⟨(some 57), .load none (.t 56), none⟩,
                        ⟨(some 6), .mv (.t 57), none⟩])
                      (.seq
                       (.reg none [⟨(some 58), .mv (.t 6), none⟩,
                         ⟨(some 59), .bin .lss (.t 58) (.c (.int .i64 0)), none⟩,
                         ⟨(some 60), .mv (.t 59), none⟩,
                         ⟨(some 61), .mv (.t 6), some (60, false)⟩,
                         ⟨(some 62), .faddr 0 (.t 1), some (60, false)⟩,
                         ⟨(some 63), .load none (.t 62), some (60, false)⟩,
                         ⟨(some 64), .bin .geq (.t 61) (.t 63), some (60, false)⟩,
                         ⟨(some 65), .pick (.t 60) (.c (.b true)) (.t 64), none⟩])
                       (.cond (.t 65)
                        (.seq
                         (.reg none [⟨(some 2), .mv (.c (.b false)), none⟩])
                         .ret)
                        .skip))))
                    (.reg none [⟨(some 66), .bin .add (.t 54) (.c (.int .i64 1)), none⟩,
                      ⟨(some 54), .mv (.t 66), none⟩]))))))))))
           (.reg none [⟨(some 67), .bin .add (.t 30) (.c (.int .i64 1)), none⟩,
             ⟨(some 30), .mv (.t 67), none⟩])))))))
     (.seq
      (.reg none [⟨(some 2), .mv (.c (.b true)), none⟩])
      .ret)))) }
theorem f38P : prepF C Try.f38 = some f38A := by kernel_rfl

/-- congou/congouref09.Width -/
def f39A : AFunc :=
{ nargs := 1, res := [.t 2], body :=
  (.seq
   (.reg none [⟨(some 1), .box (.t 0), none⟩,
     ⟨(some 2), .mv (.c (.int .i64 0)), none⟩])
   (.seq
    (.reg none [⟨(some 3), .faddr 1 (.t 1), none⟩,
      ⟨(some 4), .load none (.t 3), none⟩,
      ⟨(some 5), .iaddr 1 (.t 4) (.c (.int .i64 0)), none⟩,
      ⟨(some 6), .load none (.t 5), none⟩,
      ⟨(some 7), .len (.t 6), none⟩,
      ⟨(some 2), .mv (.t 7), none⟩])
    .ret)) }
theorem f39P : prepF C Try.f39 = some f39A := by kernel_rfl

/-- congou/congouref09.Drop -/
def f40A : AFunc :=
{ nargs := 2, res := [.c 4 (some 2), .t 5], body :=
  (.seq
   (.reg none [⟨(some 2), .box (.t 0), none⟩,
     ⟨(some 4), .alloc [(.int .i64 0), .nils], none⟩,
     ⟨(some 5), .mv (.c (.int .i64 0)), none⟩])
   (.seq
    (.seq
     (.reg none [⟨(some 9), .load (some 2) (.t 2), none⟩,
       ⟨(some 10), .call 39 [(.t 9)], none⟩,
       ⟨(some 11), .bin .eql (.t 10) (.c (.int .i64 1)), none⟩])
     (.cond (.t 11)
      (.seq
       (.reg none [⟨(some 12), .build [(.int .i64 0), .nils] [], none⟩,
         ⟨none, .store 2 (.t 4) (.t 12), none⟩,
         ⟨(some 5), .mv (.c (.int .i64 4)), none⟩])
       .ret)
      .skip))
    (.seq
     (.reg none [⟨(some 13), .faddr 0 (.t 2), none⟩,
       ⟨(some 14), .load none (.t 13), none⟩,
       ⟨(some 15), .build [(.int .i64 0), .nils] [(0, 1, (.t 14))], none⟩,
       ⟨(some 6), .alloc [(.int .i64 0), .nils], none⟩,
       ⟨none, .store 2 (.t 6) (.t 15), none⟩])
     (.seq
      (.seq
       (.reg none [⟨(some 16), .faddr 1 (.t 2), none⟩,
         ⟨(some 17), .load none (.t 16), none⟩,
         ⟨(some 18), .len (.t 17), none⟩,
         ⟨(some 19), .mv (.c (.int .i64 0)), none⟩])
       (.block 0
        (.loop
         (.seq
          (.reg none [⟨(some 20), .bin .lss (.t 19) (.t 18), none⟩])
          (.seq
           (.cond (.t 20)
            .skip
            (.exit 0))
           (.seq
            (.block 1
             (.seq
              (.reg none [⟨(some 21), .iaddr 1 (.t 17) (.t 19), none⟩,
                ⟨(some 22), .load none (.t 21), none⟩,
                ⟨(some 8), .mv (.t 22), none⟩])
              (.reg (some [(1, 6), (1, 11)]) [⟨(some 23), .faddr 1 (.t 6), none⟩,
                ⟨(some 24), .load none (.t 23), none⟩,
                ⟨(some 25), .bslice [(.int .i64 0)] 0 1 [], none⟩,
                ⟨(some 26), .mv (.t 8), none⟩,
                ⟨(some 27), .mv (.t 1), none⟩,
                ⟨(some 28), .slice 1 (.t 26) none (some (.t 27)) none, none⟩,
                ⟨(some 29), .append 1 8 (.t 25) (.t 28), none⟩,
                ⟨(some 30), .mv (.t 8), none⟩,
                ⟨(some 31), .mv (.t 1), none⟩,
                ⟨(some 32), .bin .add (.t 31) (.c (.int .i64 1)), none⟩,
                ⟨(some 33), .slice 1 (.t 30) (some (.t 32)) none none, none⟩,
                ⟨(some 34), .append 1 8 (.t 29) (.t 33), none⟩,
                ⟨(some 35), .bslice [.nils] 1 1 [(0, (.t 34))], none⟩,
                ⟨(some 36), .append 1 24 (.t 24) (.t 35), none⟩,
                ⟨(some 37), .faddr 1 (.t 6), none⟩,
                ⟨none, .store 1 (.t 37) (.t 36), none⟩])))
            (.reg none [⟨(some 38), .bin .add (.t 19) (.c (.int .i64 1)), none⟩,
              ⟨(some 19), .mv (.t 38), none⟩])))))))
      (.seq
       (.reg none [⟨(some 39), .load (some 2) (.t 6), none⟩,
         ⟨none, .store 2 (.t 4) (.t 39), none⟩,
         ⟨(some 5), .mv (.c (.int .i64 0)), none⟩])
       .ret))))) }
theorem f40P : prepF C Try.f40 = some f40A := by kernel_rfl

/-- congou/congouref09.Names -/
def f41A : AFunc :=
{ nargs := 2, res := [.t 4], body :=
  (.seq
   (.reg none [⟨(some 4), .mv (.c (.b false)), none⟩])
   (.seq
    (.reg none [⟨(some 5), .mv (.c (.int .i64 0)), none⟩])
    (.seq
     (.seq
      (.reg none [⟨(some 8), .mv (.t 1), none⟩,
        ⟨(some 9), .len (.t 8), none⟩,
        ⟨(some 10), .mv (.c (.int .i64 0)), none⟩])
      (.block 0
       (.loop
        (.seq
         (.reg none [⟨(some 11), .bin .lss (.t 10) (.t 9), none⟩])
         (.seq
          (.cond (.t 11)
           .skip
           (.exit 0))
          (.seq
           (.block 1
            (.seq
             (.reg none [⟨(some 12), .iaddr 1 (.t 8) (.t 10), none⟩,
               ⟨(some 13), .load none (.t 12), none⟩,
               ⟨(some 7), .mv (.t 13), none⟩])
             (.seq
              (.seq
               (.reg none [⟨(some 14), .mv (.t 7), none⟩,
                 ⟨(some 15), .bin .lss (.t 14) (.c (.int .i64 0)), none⟩,
                 ⟨(some 16), .mv (.t 15), none⟩,
                 ⟨(some 17), .mv (.t 7), some (16, false)⟩,
                 ⟨(some 18), .mv (.t 0), some (16, false)⟩,
                 ⟨(some 19), .bin .geq (.t 17) (.t 18), some (16, false)⟩,
                 ⟨(some 20), .pick (.t 16) (.c (.b true)) (.t 19), none⟩,
                 ⟨(some 21), .mv (.t 20), none⟩,
                 ⟨(some 22), .mv (.t 5), some (21, false)⟩,
                 ⟨(some 23), .mv (.t 7), some (21, false)⟩,
                 ⟨(some 24), .bin .shr (.t 22) (.t 23), some (21, false)⟩,
                 ⟨(some 25), .bin .and (.t 24) (.c (.int .i64 1)), some (21, false)⟩,
                 ⟨(some 26), .bin .eql (.t 25) (.c (.int .i64 1)), some (21, false)⟩,
                 ⟨(some 27), .pick (.t 21) (.c (.b true)) (.t 26), none⟩])
               (.cond (.t 27)
                (.seq
                 (.reg none [⟨(some 4), .mv (.c (.b false)), none⟩])
                 .ret)
                .skip))
              (.reg none [⟨(some 28), .mv (.t 5), none⟩,
                ⟨(some 29), .mv (.t 7), none⟩,
                ⟨(some 30), .bin .shl (.c (.int .i64 1)) (.t 29), none⟩,
                ⟨(some 31), .bin .or (.t 28) (.t 30), none⟩,
                ⟨(some 5), .mv (.t 31), none⟩]))))
           (.reg none [⟨(some 32), .bin .add (.t 10) (.c (.int .i64 1)), none⟩,
             ⟨(some 10), .mv (.t 32), none⟩])))))))
     (.seq
      (.reg none [⟨(some 33), .mv (.t 1), none⟩,
        ⟨(some 34), .len (.t 33), none⟩,
        ⟨(some 35), .mv (.t 0), none⟩,
        ⟨(some 36), .bin .eql (.t 34) (.t 35), none⟩,
        ⟨(some 4), .mv (.t 36), none⟩])
      .ret)))) }
theorem f41P : prepF C Try.f41 = some f41A := by kernel_rfl

/-- congou/congouref09.Rename -/
def f42A : AFunc :=
{ nargs := 3, res := [.c 6 (some 2)], body :=
  (.seq
   (.reg none [⟨(some 3), .box (.t 0), none⟩,
     ⟨(some 6), .alloc [(.int .i64 0), .nils], none⟩])
   (.seq
    (.reg (some []) [⟨(some 10), .faddr 0 (.t 3), none⟩,
      ⟨(some 11), .load none (.t 10), none⟩,
      ⟨(some 12), .faddr 1 (.t 3), none⟩,
      ⟨(some 13), .load none (.t 12), none⟩,
      ⟨(some 14), .call 83 [(.t 13)], none⟩,
      ⟨(some 15), .build [(.int .i64 0), .nils] [(0, 1, (.t 11)), (1, 1, (.t 14))], none⟩,
      ⟨(some 7), .alloc [(.int .i64 0), .nils], none⟩,
      ⟨none, .store 2 (.t 7) (.t 15), none⟩])
    (.seq
     (.seq
      (.reg none [⟨(some 16), .faddr 1 (.t 7), none⟩,
        ⟨(some 17), .load none (.t 16), none⟩,
        ⟨(some 18), .len (.t 17), none⟩,
        ⟨(some 19), .mv (.c (.int .i64 0)), none⟩])
      (.block 0
       (.loop
        (.seq
         (.reg none [⟨(some 20), .bin .lss (.t 19) (.t 18), none⟩])
         (.seq
          (.cond (.t 20)
           .skip
           (.exit 0))
          (.seq
           (.block 1
            (.seq
             (.reg none [⟨(some 21), .iaddr 1 (.t 17) (.t 19), none⟩,
               ⟨(some 22), .load none (.t 21), none⟩,
               ⟨(some 9), .mv (.t 22), none⟩])
             (.reg none [⟨(some 23), .mv (.t 9), none⟩,
               ⟨(some 24), .mv (.t 1), none⟩,
               ⟨(some 25), .mv (.t 2), none⟩,
               ⟨(some 26), .mv (.t 9), none⟩,
               ⟨(some 27), .mv (.t 1), none⟩,
               ⟨(some 28), .iaddr 1 (.t 26) (.t 27), none⟩,
               ⟨(some 29), .load none (.t 28), none⟩,
               ⟨(some 30), .iaddr 1 (.t 25) (.t 29), none⟩,
               ⟨(some 31), .load none (.t 30), none⟩,
               ⟨(some 32), .iaddr 1 (.t 23) (.t 24), none⟩,
               ⟨none, .store 1 (.t 32) (.t 31), none⟩])))
           (.reg none [⟨(some 33), .bin .add (.t 19) (.c (.int .i64 1)), none⟩,
             ⟨(some 19), .mv (.t 33), none⟩])))))))
     (.seq
      (.reg none [⟨(some 34), .load (some 2) (.t 7), none⟩,
        ⟨none, .store 2 (.t 6) (.t 34), none⟩])
      .ret)))) }
theorem f42P : prepF C Try.f42 = some f42A := by kernel_rfl

/-- congou/arrays.Distance -/
def f47A : AFunc :=
{ nargs := 1, res := [.t 2, .t 3], body :=
  (.seq
   (.reg none [⟨(some 1), .box (.t 0), none⟩,
     ⟨(some 2), .mv (.c (.int .i64 0)), none⟩,
     ⟨(some 3), .mv (.c (.int .i64 0)), none⟩])
   (.seq
    (.block 0
     (.seq
      (.reg none [⟨(some 12), .load (some 2) (.t 1), none⟩,
        ⟨(some 13), .call 74 [(.t 12)], none⟩,
        ⟨(some 14), .un .not (.t 13), none⟩,
        ⟨(some 11), .mv (.t 14), none⟩])
      (.cond (.t 11)
       (.seq
        (.reg none [⟨(some 2), .mv (.c (.int .i64 0)), none⟩,
          ⟨(some 3), .mv (.c (.int .i64 2)), none⟩])
        .ret)
       (.seq
        (.reg none [⟨(some 16), .faddr 1 (.t 1), none⟩,
          ⟨(some 17), .load none (.t 16), none⟩,
          ⟨(some 18), .len (.t 17), none⟩,
          ⟨(some 19), .bin .eql (.t 18) (.c (.int .i64 1)), none⟩,
          ⟨(some 15), .mv (.t 19), none⟩])
        (.cond (.t 15)
         (.seq
          (.reg none [⟨(some 2), .mv (.c (.int .i64 0)), none⟩,
            ⟨(some 3), .mv (.c (.int .i64 4)), none⟩])
          .ret)
         .skip)))))
    (.seq
     (.reg none [⟨(some 20), .load (some 2) (.t 1), none⟩,
       ⟨(some 21), .call 75 [(.t 20)], none⟩,
       ⟨(some 4), .mv (.t 21), none⟩])
     (.seq
      (.seq
       (.reg none [⟨(some 22), .faddr 1 (.t 1), none⟩,
         ⟨(some 23), .load none (.t 22), none⟩,
         ⟨(some 24), .len (.t 23), none⟩,
         ⟨(some 25), .mv (.c (.int .i64 0)), none⟩])
       (.block 1
        (.loop
         (.seq
          (.reg none [⟨(some 26), .bin .lss (.t 25) (.t 24), none⟩])
          (.seq
           (.cond (.t 26)
            .skip
            (.exit 1))
           (.seq
            (.block 2
             (.seq
              (.reg none [⟨(some 27), .mv (.t 25), none⟩,
                ⟨(some 28), .iaddr 1 (.t 23) (.t 25), none⟩,
                ⟨(some 29), .load none (.t 28), none⟩,
                ⟨(some 5), .mv (.t 27), none⟩,
                ⟨(some 6), .mv (.t 29), none⟩])
              (.seq
               (.reg none [⟨(some 30), .faddr 1 (.t 1), none⟩,
                 ⟨(some 31), .load none (.t 30), none⟩,
                 ⟨(some 32), .mv (.t 5), none⟩,
                 ⟨(some 33), .slice 1 (.t 31) none (some (.t 32)) none, none⟩,
                 ⟨(some 34), .len (.t 33), none⟩,
                 ⟨(some 35), .mv (.c (.int .i64 0)), none⟩])
               (.block 3
                (.loop
                 (.seq
                  (.reg none [⟨(some 36), .bin .lss (.t 35) (.t 34), none⟩])
                  (.seq
                   (.cond (.t 36)
                    .skip
                    (.exit 3))
                   (.seq
                    (.block 4
                     (.seq
                      (.reg none [⟨(some 37), .iaddr 1 (.t 33) (.t 35), none⟩,
                        ⟨(some 38), .load none (.t 37), none⟩,
                        ⟨(some 8), .mv (.t 38), none⟩])
                      (.seq
                       (.reg none [⟨(some 9), .mv (.c (.int .i64 0)), none⟩])
                       (.seq
                        (.seq
                         (.reg none [⟨(some 39), .mv (.t 6), none⟩,
                           ⟨(some 40), .len (.t 39), none⟩,
                           ⟨(some 41), .mv (.c (.int .i64 0)), none⟩])
                         (.block 5
                          (.loop
                           (.seq
                            (.reg none [⟨(some 42), .bin .lss (.t 41) (.t 40), none⟩])
                            (.seq
                             (.cond (.t 42)
                              .skip
                              (.exit 5))
                             (.seq
                              (.block 6
                               (.seq
                                (.reg none [⟨(some 43), .mv (.t 41), none⟩,
                                  ⟨(some 10), .mv (.t 43), none⟩])
                                (.seq
                                 (.reg (some []) [⟨(some 44), .mv (.t 6), none⟩,
                                   ⟨(some 45), .mv (.t 10), none⟩,
                                   ⟨(some 46), .iaddr 1 (.t 44) (.t 45), none⟩,
                                   ⟨(some 47), .load none (.t 46), none⟩,
                                   ⟨(some 48), .mv (.t 8), none⟩,
                                   ⟨(some 49), .mv (.t 10), none⟩,
                                   ⟨(some 50), .iaddr 1 (.t 48) (.t 49), none⟩,
                                   ⟨(some 51), .load none (.t 50), none⟩,
                                   ⟨(some 52), .bin .neq (.t 47) (.t 51), none⟩])
                                 (.cond (.t 52)
                                  (.reg none [⟨(some 53), .mv (.t 9), none⟩,
                                    ⟨(some 54), .bin .add (.t 53) (.c (.int .i64 1)), none⟩,
                                    ⟨(some 9), .mv (.t 54), none⟩])
                                  .skip))))
                              (.reg none [⟨(some 55), .bin .add (.t 41) (.c (.int .i64 1)), none⟩,
                                ⟨(some 41), .mv (.t 55), none⟩])))))))
                        (.reg none [⟨(some 56), .mv (.t 4), none⟩,
                          ⟨(some 57), .mv (.t 9), none⟩,
                          ⟨(some 58), .mn [(.t 56), (.t 57)], none⟩,
                          ⟨(some 4), .mv (.t 58), none⟩])))))
                    (.reg none [⟨(some 59), .bin .add (.t 35) (.c (.int .i64 1)), none⟩,
                      ⟨(some 35), .mv (.t 59), none⟩])))))))))
            (.reg none [⟨(some 60), .bin .add (.t 25) (.c (.int .i64 1)), none⟩,
              ⟨(some 25), .mv (.t 60), none⟩])))))))
      (.seq
       (.reg none [⟨(some 61), .mv (.t 4), none⟩,
         ⟨(some 2), .mv (.t 61), none⟩,
         ⟨(some 3), .mv (.c (.int .i64 0)), none⟩])
       .ret))))) }
theorem f47P : prepF C Try.f47 = some f47A := by kernel_rfl

/-- slices.Contains[[]int,int] -/
def f62A : AFunc :=
{ nargs := 2, res := [.t 4], body :=
  (.seq
   (.reg none [⟨(some 4), .mv (.c (.b false)), none⟩])
   (.seq
    (.reg none [⟨(some 5), .mv (.t 0), none⟩,
      ⟨(some 6), .mv (.t 1), none⟩,
      ⟨(some 7), .call 92 [(.t 5), (.t 6)], none⟩,
      ⟨(some 8), .bin .geq (.t 7) (.c (.int .i64 0)), none⟩,
      ⟨(some 4), .mv (.t 8), none⟩])
    .ret)) }
theorem f62P : prepF C Try.f62 = some f62A := by kernel_rfl

/-- (congou/arrays.Array).valid -/
def f74A : AFunc :=
{ nargs := 1, res := [.t 2], body :=
  (.seq
   (.reg none [⟨(some 1), .box (.t 0), none⟩,
     ⟨(some 2), .mv (.c (.b false)), none⟩])
   (.seq
    (.seq
     (.reg none [⟨(some 5), .faddr 0 (.t 1), none⟩,
       ⟨(some 6), .load none (.t 5), none⟩,
       ⟨(some 7), .bin .lss (.t 6) (.c (.int .i64 2)), none⟩,
       ⟨(some 8), .mv (.t 7), none⟩,
       ⟨(some 9), .faddr 0 (.t 1), some (8, false)⟩,
       ⟨(some 10), .load none (.t 9), some (8, false)⟩,
       ⟨(some 11), .bin .gtr (.t 10) (.c (.int .i64 4)), some (8, false)⟩,
       ⟨(some 12), .pick (.t 8) (.c (.b true)) (.t 11), none⟩,
       ⟨(some 13), .mv (.t 12), none⟩,
       ⟨(some 14), .faddr 1 (.t 1), some (13, false)⟩,
       ⟨(some 15), .load none (.t 14), some (13, false)⟩,
       ⟨(some 16), .len (.t 15), some (13, false)⟩,
       ⟨(some 17), .bin .lss (.t 16) (.c (.int .i64 1)), some (13, false)⟩,
       ⟨(some 18), .pick (.t 13) (.c (.b true)) (.t 17), none⟩,
       ⟨(some 19), .mv (.t 18), none⟩,
       ⟨(some 20), .faddr 1 (.t 1), some (19, false)⟩,
       ⟨(some 21), .load none (.t 20), some (19, false)⟩,
       ⟨(some 22), .len (.t 21), some (19, false)⟩,
       ⟨(some 23), .bin .gtr (.t 22) (.c (.int .i64 16)), some (19, false)⟩,
       ⟨(some 24), .pick (.t 19) (.c (.b true)) (.t 23), none⟩])
     (.cond (.t 24)
      (.seq
       (.reg none [⟨(some 2), .mv (.c (.b false)), none⟩])
       .ret)
      .skip))
    (.seq
     (.seq
      (.reg none [⟨(some 25), .faddr 1 (.t 1), none⟩,
        ⟨(some 26), .load none (.t 25), none⟩,
        ⟨(some 27), .len (.t 26), none⟩,
        ⟨(some 28), .mv (.c (.int .i64 0)), none⟩])
      (.block 0
       (.loop
        (.seq
         (.reg none [⟨(some 29), .bin .lss (.t 28) (.t 27), none⟩])
         (.seq
          (.cond (.t 29)
           .skip
           (.exit 0))
          (.seq
           (.block 1
            (.seq
             (.reg none [⟨(some 30), .iaddr 1 (.t 26) (.t 28), none⟩,
               ⟨(some 31), .load none (.t 30), none⟩,
               ⟨(some 4), .mv (.t 31), none⟩])
             (.seq
              (.reg (some []) [⟨(some 32), .mv (.t 4), none⟩,
                ⟨(some 33), .len (.t 32), none⟩,
                ⟨(some 34), .bin .lss (.t 33) (.c (.int .i64 1)), none⟩,
                ⟨(some 35), .mv (.t 34), none⟩,
                ⟨(some 36), .mv (.t 4), some (35, false)⟩,
                ⟨(some 37), .len (.t 36), some (35, false)⟩,
                ⟨(some 38), .bin .gtr (.t 37) (.c (.int .i64 8)), some (35, false)⟩,
                ⟨(some 39), .pick (.t 35) (.c (.b true)) (.t 38), none⟩,
                ⟨(some 40), .mv (.t 39), none⟩,
                ⟨(some 41), .mv (.t 4), some (40, false)⟩,
                ⟨(some 42), .len (.t 41), some (40, false)⟩,
                ⟨(some 43), .faddr 1 (.t 1), some (40, false)⟩,
                ⟨(some 44), .load none (.t 43), some (40, false)⟩,
                ⟨(some 45), .iaddr 1 (.t 44) (.c (.int .i64 0)), some (40, false)⟩,
                ⟨(some 46), .load none (.t 45), some (40, false)⟩,
                ⟨(some 47), .len (.t 46), some (40, false)⟩,
                ⟨(some 48), .bin .neq (.t 42) (.t 47), some (40, false)⟩,
                ⟨(some 49), .pick (.t 40) (.c (.b true)) (.t 48), none⟩,
                ⟨(some 50), .mv (.t 49), none⟩,
                ⟨(some 51), .mv (.t 4), some (50, false)⟩,
                ⟨(some 52), .call 98 [(.t 51)], some (50, false)⟩,
                ⟨(some 53), .bin .lss (.t 52) (.c (.int .i64 0)), some (50, false)⟩,
                ⟨(some 54), .pick (.t 50) (.c (.b true)) (.t 53), none⟩,
                ⟨(some 55), .mv (.t 54), none⟩,
                ⟨(some 56), .mv (.t 4), some (55, false)⟩,
                ⟨(some 57), .call 99 [(.t 56)], some (55, false)⟩,
                ⟨(some 58), .faddr 0 (.t 1), some (55, false)⟩,
                ⟨(some 59), .load none (.t 58), some (55, false)⟩,
                ⟨(some 60), .bin .geq (.t 57) (.t 59), some (55, false)⟩,
                ⟨(some 61), .pick (.t 55) (.c (.b true)) (.t 60), none⟩])
              (.cond (.t 61)
               (.seq
                (.reg none [⟨(some 2), .mv (.c (.b false)), none⟩])
                .ret)
               .skip))))
           (.reg none [⟨(some 62), .bin .add (.t 28) (.c (.int .i64 1)), none⟩,
             ⟨(some 28), .mv (.t 62), none⟩])))))))
     (.seq
      (.reg none [⟨(some 2), .mv (.c (.b true)), none⟩])
      .ret)))) }
theorem f74P : prepF C Try.f74 = some f74A := by kernel_rfl

/-- (congou/arrays.Array).columns -/
def f75A : AFunc :=
{ nargs := 1, res := [.t 2], body :=
  (.seq
   (.reg none [⟨(some 1), .box (.t 0), none⟩,
     ⟨(some 2), .mv (.c (.int .i64 0)), none⟩])
   (.seq
    (.reg none [⟨(some 3), .faddr 1 (.t 1), none⟩,
      ⟨(some 4), .load none (.t 3), none⟩,
      ⟨(some 5), .iaddr 1 (.t 4) (.c (.int .i64 0)), none⟩,
      ⟨(some 6), .load none (.t 5), none⟩,
      ⟨(some 7), .len (.t 6), none⟩,
      ⟨(some 2), .mv (.t 7), none⟩])
    .ret)) }
theorem f75P : prepF C Try.f75 = some f75A := by kernel_rfl

/-- slices.Concat[[][]int,[]int] -/
def f76A : AFunc :=
{ nargs := 1, res := [.t 2], body :=
  (.seq
   (.reg none [⟨(some 2), .mv (.c .nils), none⟩])
   (.seq
    (.reg none [⟨(some 3), .mv (.c (.int .i64 0)), none⟩])
    (.seq
     (.seq
      (.reg none [⟨(some 9), .mv (.t 0), none⟩,
        ⟨(some 10), .len (.t 9), none⟩,
        ⟨(some 11), .mv (.c (.int .i64 0)), none⟩])
      (.block 0
       (.loop
        (.seq
         (.reg none [⟨(some 12), .bin .lss (.t 11) (.t 10), none⟩])
         (.seq
          (.cond (.t 12)
           .skip
           (.exit 0))
          (.seq
           (.block 1
            (.seq
             (.reg none [⟨(some 13), .iaddr 1 (.t 9) (.t 11), none⟩,
               ⟨(some 14), .load none (.t 13), none⟩,
               ⟨(some 5), .mv (.t 14), none⟩])
             (.seq
              (.reg none [⟨(some 15), .mv (.t 3), none⟩,
                ⟨(some 16), .mv (.t 5), none⟩,
                ⟨(some 17), .len (.t 16), none⟩,
                ⟨(some 18), .bin .add (.t 15) (.t 17), none⟩,
                ⟨(some 3), .mv (.t 18), none⟩])
              (.seq
               (.reg none [⟨(some 19), .mv (.t 3), none⟩,
                 ⟨(some 20), .bin .lss (.t 19) (.c (.int .i64 0)), none⟩])
               (.cond (.t 20)
                (.reg none [⟨(some 21), .bad, none⟩,
                  ⟨none, .bad, none⟩])
                .skip)))))
           (.reg none [⟨(some 22), .bin .add (.t 11) (.c (.int .i64 1)), none⟩,
             ⟨(some 11), .mv (.t 22), none⟩])))))))
     (.seq
      (.reg none [⟨(some 23), .mv (.t 3), none⟩,
        ⟨(some 24), .call 100 [(.c .nils), (.t 23)], none⟩,
        ⟨(some 6), .mv (.t 24), none⟩])
      (.seq
       (.seq
        (.reg none [⟨(some 25), .mv (.t 0), none⟩,
          ⟨(some 26), .len (.t 25), none⟩,
          ⟨(some 27), .mv (.c (.int .i64 0)), none⟩])
        (.block 2
         (.loop
          (.seq
           (.reg none [⟨(some 28), .bin .lss (.t 27) (.t 26), none⟩])
           (.seq
            (.cond (.t 28)
             .skip
             (.exit 2))
            (.seq
             (.block 3
              (.seq
               (.reg none [⟨(some 29), .iaddr 1 (.t 25) (.t 27), none⟩,
                 ⟨(some 30), .load none (.t 29), none⟩,
                 ⟨(some 8), .mv (.t 30), none⟩])
               (.reg none [⟨(some 31), .mv (.t 6), none⟩,
                 ⟨(some 32), .mv (.t 8), none⟩,
                 ⟨(some 33), .append 1 24 (.t 31) (.t 32), none⟩,
                 ⟨(some 6), .mv (.t 33), none⟩])))
             (.reg none [⟨(some 34), .bin .add (.t 27) (.c (.int .i64 1)), none⟩,
               ⟨(some 27), .mv (.t 34), none⟩])))))))
       (.seq
        (.reg none [⟨(some 35), .mv (.t 6), none⟩,
          ⟨(some 2), .mv (.t 35), none⟩])
        .ret)))))) }
theorem f76P : prepF C Try.f76 = some f76A := by kernel_rfl

/-- (congou/arrays.Array).each -/
def f77A : AFunc :=
{ nargs := 2, res := [.c 4 (some 2)], body :=
  (.seq
   (.reg none [⟨(some 2), .box (.t 0), none⟩,
     ⟨(some 4), .alloc [(.int .i64 0), .nils], none⟩])
   (.seq
    (.reg none [⟨(some 8), .faddr 0 (.t 2), none⟩,
      ⟨(some 9), .load none (.t 8), none⟩,
      ⟨(some 10), .build [(.int .i64 0), .nils] [(0, 1, (.t 9))], none⟩,
      ⟨(some 5), .alloc [(.int .i64 0), .nils], none⟩,
      ⟨none, .store 2 (.t 5) (.t 10), none⟩])
    (.seq
     (.seq
      (.reg none [⟨(some 11), .faddr 1 (.t 2), none⟩,
        ⟨(some 12), .load none (.t 11), none⟩,
        ⟨(some 13), .len (.t 12), none⟩,
        ⟨(some 14), .mv (.c (.int .i64 0)), none⟩])
      (.block 0
       (.loop
        (.seq
         (.reg none [⟨(some 15), .bin .lss (.t 14) (.t 13), none⟩])
         (.seq
          (.cond (.t 15)
           .skip
           (.exit 0))
          (.seq
           (.block 1
            (.seq
             (.reg none [⟨(some 16), .iaddr 1 (.t 12) (.t 14), none⟩,
               ⟨(some 17), .load none (.t 16), none⟩,
               ⟨(some 7), .mv (.t 17), none⟩])
             (.reg (some [(1, 5)]) [⟨(some 18), .faddr 1 (.t 5), none⟩,
               ⟨(some 19), .load none (.t 18), none⟩,
               ⟨(some 20), .mv (.t 1), none⟩,
               ⟨(some 21), .mv (.t 7), none⟩,
               ⟨(some 22), .call 82 [(.t 21)], none⟩,
               ⟨(some 23), .callv (.t 20) [(.t 22)], none⟩,
               ⟨(some 24), .bslice [.nils] 1 1 [(0, (.t 23))], none⟩,
               ⟨(some 25), .append 1 24 (.t 19) (.t 24), none⟩,
               ⟨(some 26), .faddr 1 (.t 5), none⟩,
               ⟨none, .store 1 (.t 26) (.t 25), none⟩])))
           (.reg none [⟨(some 27), .bin .add (.t 14) (.c (.int .i64 1)), none⟩,
             ⟨(some 14), .mv (.t 27), none⟩])))))))
     (.seq
      (.reg none [⟨(some 28), .load (some 2) (.t 5), none⟩,
        ⟨none, .store 2 (.t 4) (.t 28), none⟩])
      .ret)))) }
theorem f77P : prepF C Try.f77 = some f77A := by kernel_rfl

/-- slices.Clip[[]int,int] -/
def f78A : AFunc :=
{ nargs := 1, res := [.t 2], body :=
  (.seq
   (.reg none [⟨(some 2), .mv (.c .nils), none⟩])
   (.seq
    (.reg none [⟨(some 3), .mv (.t 0), none⟩,
      ⟨(some 4), .mv (.t 0), none⟩,
      ⟨(some 5), .len (.t 4), none⟩,
      ⟨(some 6), .mv (.t 0), none⟩,
      ⟨(some 7), .len (.t 6), none⟩,
      ⟨(some 8), .slice 1 (.t 3) none (some (.t 5)) (some (.t 7)), none⟩,
      ⟨(some 2), .mv (.t 8), none⟩])
    .ret)) }
theorem f78P : prepF C Try.f78 = some f78A := by kernel_rfl

/-- congou/arrays.Drop$1 -/
def f79A : AFunc :=
{ nargs := 2, res := [.t 3], body :=
  (.seq
   (.reg none [⟨(some 3), .mv (.c .nils), none⟩])
   (.seq
    (.reg none [⟨(some 4), .mv (.t 0), none⟩,
      ⟨(some 5), .load none (.t 1), none⟩,
      ⟨(some 6), .load none (.t 1), none⟩,
      ⟨(some 7), .bin .add (.t 6) (.c (.int .i64 1)), none⟩,
      ⟨(some 8), .call 80 [(.t 4), (.t 5), (.t 7)], none⟩,
      ⟨(some 3), .mv (.t 8), none⟩])
    .ret)) }
theorem f79P : prepF C Try.f79 = some f79A := by kernel_rfl

/-- congou/arrays.Rename$1 -/
def f81A : AFunc :=
{ nargs := 3, res := [.t 4], body :=
  (.seq
   (.reg none [⟨(some 4), .mv (.c .nils), none⟩])
   (.seq
    (.reg (some []) [⟨(some 5), .mv (.t 0), none⟩,
      ⟨(some 6), .load none (.t 2), none⟩,
      ⟨(some 7), .load none (.t 1), none⟩,
      ⟨(some 8), .mv (.t 0), none⟩,
      ⟨(some 9), .load none (.t 2), none⟩,
      ⟨(some 10), .iaddr 1 (.t 8) (.t 9), none⟩,
      ⟨(some 11), .load none (.t 10), none⟩,
      ⟨(some 12), .iaddr 1 (.t 7) (.t 11), none⟩,
      ⟨(some 13), .load none (.t 12), none⟩,
      ⟨(some 14), .iaddr 1 (.t 5) (.t 6), none⟩,
      ⟨none, .store 1 (.t 14) (.t 13), none⟩])
    (.seq
     (.reg none [⟨(some 15), .mv (.t 0), none⟩,
       ⟨(some 4), .mv (.t 15), none⟩])
     .ret))) }
theorem f81P : prepF C Try.f81 = some f81A := by kernel_rfl

/-- slices.Clone[[]int,int] -/
def f82A : AFunc :=
{ nargs := 1, res := [.t 2], body :=
  (.seq
   (.reg none [⟨(some 2), .mv (.c .nils), none⟩])
   (.seq
    (.seq
     (.reg none [⟨(some 3), .mv (.t 0), none⟩,
       ⟨(some 4), .seq false (.t 3) (.c .nils), none⟩])
     (.cond (.t 4)
      (.seq
       (.reg none [⟨(some 2), .mv (.c .nils), none⟩])
       .ret)
      .skip))
    (.seq
     (.reg none [⟨(some 5), .bslice [(.int .i64 0)] 0 1 [], none⟩,
       ⟨(some 6), .mv (.t 0), none⟩,
       ⟨(some 7), .append 1 8 (.t 5) (.t 6), none⟩,
       ⟨(some 2), .mv (.t 7), none⟩])
     .ret))) }
theorem f82P : prepF C Try.f82 = some f82A := by kernel_rfl

/-- congou/congouref09.copied -/
def f83A : AFunc :=
{ nargs := 1, res := [.t 2], body :=
  (.seq
   (.reg none [⟨(some 2), .mv (.c .nils), none⟩])
   (.seq
    (.reg none [⟨(some 3), .mv (.c .nils), none⟩])
    (.seq
     (.seq
      (.reg none [⟨(some 6), .mv (.t 0), none⟩,
        ⟨(some 7), .len (.t 6), none⟩,
        ⟨(some 8), .mv (.c (.int .i64 0)), none⟩])
      (.block 0
       (.loop
        (.seq
         (.reg none [⟨(some 9), .bin .lss (.t 8) (.t 7), none⟩])
         (.seq
          (.cond (.t 9)
           .skip
           (.exit 0))
          (.seq
           (.block 1
            (.seq
             (.reg none [⟨(some 10), .iaddr 1 (.t 6) (.t 8), none⟩,
               ⟨(some 11), .load none (.t 10), none⟩,
               ⟨(some 5), .mv (.t 11), none⟩])
             (.reg none [⟨(some 12), .mv (.t 3), none⟩,
               ⟨(some 13), .bslice [(.int .i64 0)] 0 1 [], none⟩,
               ⟨(some 14), .mv (.t 5), none⟩,
               ⟨(some 15), .append 1 8 (.t 13) (.t 14), none⟩,
               ⟨(some 16), .bslice [.nils] 1 1 [(0, (.t 15))], none⟩,
               ⟨(some 17), .append 1 24 (.t 12) (.t 16), none⟩,
               ⟨(some 3), .mv (.t 17), none⟩])))
           (.reg none [⟨(some 18), .bin .add (.t 8) (.c (.int .i64 1)), none⟩,
             ⟨(some 8), .mv (.t 18), none⟩])))))))
     (.seq
      (.reg none [⟨(some 19), .mv (.t 3), none⟩,
        ⟨(some 2), .mv (.t 19), none⟩])
      .ret)))) }
theorem f83P : prepF C Try.f83 = some f83A := by kernel_rfl

/-- slices.Index[[]int,int] -/
def f92A : AFunc :=
{ nargs := 2, res := [.t 4], body :=
  (.seq
   (.reg none [⟨(some 4), .mv (.c (.int .i64 0)), none⟩])
   (.seq
    (.seq
     (.reg none [⟨(some 6), .mv (.t 0), none⟩,
       ⟨(some 7), .len (.t 6), none⟩,
       ⟨(some 8), .mv (.c (.int .i64 0)), none⟩])
     (.block 0
      (.loop
       (.seq
        (.reg none [⟨(some 9), .bin .lss (.t 8) (.t 7), none⟩])
        (.seq
         (.cond (.t 9)
          .skip
          (.exit 0))
         (.seq
          (.block 1
           (.seq
            (.reg none [⟨(some 10), .mv (.t 8), none⟩,
              ⟨(some 5), .mv (.t 10), none⟩])
            (.seq
             (.reg none [⟨(some 11), .mv (.t 1), none⟩,
               ⟨(some 12), .mv (.t 0), none⟩,
               ⟨(some 13), .mv (.t 5), none⟩,
               ⟨(some 14), .iaddr 1 (.t 12) (.t 13), none⟩,
               ⟨(some 15), .load none (.t 14), none⟩,
               ⟨(some 16), .bin .eql (.t 11) (.t 15), none⟩])
             (.cond (.t 16)
              (.seq
               (.reg none [⟨(some 17), .mv (.t 5), none⟩,
                 ⟨(some 4), .mv (.t 17), none⟩])
               .ret)
              .skip))))
          (.reg none [⟨(some 18), .bin .add (.t 8) (.c (.int .i64 1)), none⟩,
            ⟨(some 8), .mv (.t 18), none⟩])))))))
    (.seq
     (.reg none [⟨(some 4), .mv (.c (.int .i64 (-1))), none⟩])
     .ret))) }
theorem f92P : prepF C Try.f92 = some f92A := by kernel_rfl

/-- slices.Min[[]int,int] -/
def f98A : AFunc :=
{ nargs := 1, res := [.t 2], body :=
  (.seq
   (.reg none [⟨(some 2), .mv (.c (.int .i64 0)), none⟩])
   (.seq
    (.seq
     (.reg none [⟨(some 5), .mv (.t 0), none⟩,
       ⟨(some 6), .len (.t 5), none⟩,
       ⟨(some 7), .bin .lss (.t 6) (.c (.int .i64 1)), none⟩])
     (.cond (.t 7)
      (.reg none [⟨(some 8), .bad, none⟩,
        ⟨none, .bad, none⟩])
      .skip))
    (.seq
     (.reg none [⟨(some 9), .mv (.t 0), none⟩,
       ⟨(some 10), .iaddr 1 (.t 9) (.c (.int .i64 0)), none⟩,
       ⟨(some 11), .load none (.t 10), none⟩,
       ⟨(some 3), .mv (.t 11), none⟩])
     (.seq
      (.seq
       (.reg none [⟨(some 4), .mv (.c (.int .i64 1)), none⟩])
       (.block 0
        (.loop
         (.seq
          (.seq
           (.reg none [⟨(some 12), .mv (.t 4), none⟩,
             ⟨(some 13), .mv (.t 0), none⟩,
             ⟨(some 14), .len (.t 13), none⟩,
             ⟨(some 15), .bin .lss (.t 12) (.t 14), none⟩])
           (.cond (.t 15)
            .skip
            (.exit 0)))
          (.seq
           (.block 1
            (.reg none [⟨(some 18), .mv (.t 3), none⟩,
              ⟨(some 19), .mv (.t 0), none⟩,
              ⟨(some 20), .mv (.t 4), none⟩,
              ⟨(some 21), .iaddr 1 (.t 19) (.t 20), none⟩,
              ⟨(some 22), .load none (.t 21), none⟩,
              ⟨(some 23), .mn [(.t 18), (.t 22)], none⟩,
              ⟨(some 3), .mv (.t 23), none⟩]))
           (.reg none [⟨(some 16), .mv (.t 4), none⟩,
             ⟨(some 17), .bin .add (.t 16) (.c (.int .i64 1)), none⟩,
             ⟨(some 4), .mv (.t 17), none⟩]))))))
      (.seq
       (.reg none [⟨(some 24), .mv (.t 3), none⟩,
         ⟨(some 2), .mv (.t 24), none⟩])
       .ret))))) }
theorem f98P : prepF C Try.f98 = some f98A := by kernel_rfl

/-- slices.Max[[]int,int] -/
def f99A : AFunc :=
{ nargs := 1, res := [.t 2], body :=
  (.seq
   (.reg none [⟨(some 2), .mv (.c (.int .i64 0)), none⟩])
   (.seq
    (.seq
     (.reg none [⟨(some 5), .mv (.t 0), none⟩,
       ⟨(some 6), .len (.t 5), none⟩,
       ⟨(some 7), .bin .lss (.t 6) (.c (.int .i64 1)), none⟩])
     (.cond (.t 7)
      (.reg none [⟨(some 8), .bad, none⟩,
        ⟨none, .bad, none⟩])
      .skip))
    (.seq
     (.reg none [⟨(some 9), .mv (.t 0), none⟩,
       ⟨(some 10), .iaddr 1 (.t 9) (.c (.int .i64 0)), none⟩,
       ⟨(some 11), .load none (.t 10), none⟩,
       ⟨(some 3), .mv (.t 11), none⟩])
     (.seq
      (.seq
       (.reg none [⟨(some 4), .mv (.c (.int .i64 1)), none⟩])
       (.block 0
        (.loop
         (.seq
          (.seq
           (.reg none [⟨(some 12), .mv (.t 4), none⟩,
             ⟨(some 13), .mv (.t 0), none⟩,
             ⟨(some 14), .len (.t 13), none⟩,
             ⟨(some 15), .bin .lss (.t 12) (.t 14), none⟩])
           (.cond (.t 15)
            .skip
            (.exit 0)))
          (.seq
           (.block 1
            (.reg none [⟨(some 18), .mv (.t 3), none⟩,
              ⟨(some 19), .mv (.t 0), none⟩,
              ⟨(some 20), .mv (.t 4), none⟩,
              ⟨(some 21), .iaddr 1 (.t 19) (.t 20), none⟩,
              ⟨(some 22), .load none (.t 21), none⟩,
              ⟨(some 23), .mx [(.t 18), (.t 22)], none⟩,
              ⟨(some 3), .mv (.t 23), none⟩]))
           (.reg none [⟨(some 16), .mv (.t 4), none⟩,
             ⟨(some 17), .bin .add (.t 16) (.c (.int .i64 1)), none⟩,
             ⟨(some 4), .mv (.t 17), none⟩]))))))
      (.seq
       (.reg none [⟨(some 24), .mv (.t 3), none⟩,
         ⟨(some 2), .mv (.t 24), none⟩])
       .ret))))) }
theorem f99P : prepF C Try.f99 = some f99A := by kernel_rfl

/-- slices.Grow[[][]int,[]int] -/
def f100A : AFunc :=
{ nargs := 2, res := [.t 4], body :=
  (.seq
   (.reg none [⟨(some 4), .mv (.c .nils), none⟩])
   (.seq
    (.seq
     (.reg none [⟨(some 5), .mv (.t 1), none⟩,
       ⟨(some 6), .bin .lss (.t 5) (.c (.int .i64 0)), none⟩])
     (.cond (.t 6)
      (.reg none [⟨(some 7), .bad, none⟩,
        ⟨none, .bad, none⟩])
      .skip))
    (.seq
     (.seq
      (.reg none [⟨(some 8), .mv (.t 1), none⟩,
        ⟨(some 9), .mv (.t 0), none⟩,
        ⟨(some 10), .cap (.t 9), none⟩,
        ⟨(some 11), .mv (.t 0), none⟩,
        ⟨(some 12), .len (.t 11), none⟩,
        ⟨(some 13), .bin .sub (.t 10) (.t 12), none⟩,
        ⟨(some 14), .bin .sub (.t 8) (.t 13), none⟩,
        ⟨(some 1), .mv (.t 14), none⟩])
      (.seq
       (.reg none [⟨(some 15), .mv (.t 1), none⟩,
         ⟨(some 16), .bin .gtr (.t 15) (.c (.int .i64 0)), none⟩])
       (.cond (.t 16)
        (.reg none [⟨(some 17), .mv (.t 0), none⟩,
          ⟨(some 18), .mv (.t 0), none⟩,
          ⟨(some 19), .cap (.t 18), none⟩,
          ⟨(some 20), .slice 1 (.t 17) none (some (.t 19)) none, none⟩,
          ⟨(some 21), .mv (.t 1), none⟩,
          ⟨(some 22), .appendz 1 24 [.nils] (.t 20) (.t 21), none⟩,
          ⟨(some 23), .mv (.t 0), none⟩,
          ⟨(some 24), .len (.t 23), none⟩,
          ⟨(some 25), .slice 1 (.t 22) none (some (.t 24)) none, none⟩,
          ⟨(some 0), .mv (.t 25), none⟩])
        .skip)))
     (.seq
      (.reg none [⟨(some 26), .mv (.t 0), none⟩,
        ⟨(some 4), .mv (.t 26), none⟩])
      .ret)))) }
theorem f100P : prepF C Try.f100 = some f100A := by kernel_rfl

end Go.Proofs.Ytalaadcbpjnglaa
