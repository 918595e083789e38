/- The abstract forms of the functions that are needed, each checked against the translation. No condition. -/
import Derived.Test.YtalaadcbpjnglaaAm1
import Derived.Test.YtalaadcbpjnglaaProg
namespace Go.Proofs.Ytalaadcbpjnglaa
open Go Go.AM Go.Proofs

/-- the seat's program; the types whose comparison is taken; the functions that may write to what is older -/
def kd : Nat → Kd := fun f => if [79, 80, 81, 96, 97, 102].contains f then .wrt else if [25, 4, 10, 13, 27].contains f then .closed else .ro
noncomputable def C : Cfg := { P := Try.prog, eqT := fun _ => none, kd := kd }
/-- congou/congoulaw09.ArraysNew -/
def f12A : AFunc :=
{ nargs := 3, res := [.t 6], body :=
  (.seq
   (.reg none [⟨(some 6), .mv (.c (.b false)), none⟩])
   (.seq
    (.reg none [⟨(some 15), .mv (.t 0), none⟩,
      ⟨(some 16), .mv (.t 1), none⟩,
      ⟨(some 17), .mv (.t 2), none⟩,
      ⟨(some 18), .call 43 [(.t 15), (.t 16), (.t 17)], none⟩,
      ⟨(some 14), .mv (.t 18), none⟩,
      ⟨(some 19), .extr (.t 14) 0, none⟩,
      ⟨(some 20), .extr (.t 14) 1, none⟩,
      ⟨(some 7), .alloc [(.int .i64 0), .nils], none⟩,
      ⟨none, .store 2 (.t 7) (.t 19), none⟩,
      ⟨(some 8), .mv (.t 20), none⟩])
    (.seq
     (.seq
      (.reg none [⟨(some 21), .mv (.t 8), none⟩,
        ⟨(some 22), .bin .neq (.t 21) (.c (.int .i64 0)), none⟩,
        ⟨(some 23), .mv (.t 22), none⟩,
        ⟨(some 24), .mv (.t 0), some (23, false)⟩,
        ⟨(some 25), .mv (.t 1), some (23, false)⟩,
        ⟨(some 26), .mv (.t 2), some (23, false)⟩,
        ⟨(some 27), .call 44 [(.t 24), (.t 25), (.t 26)], some (23, false)⟩,
        ⟨(some 28), .un .not (.t 27), some (23, false)⟩,
        ⟨(some 29), .pick (.t 23) (.c (.b true)) (.t 28), none⟩])
      (.cond (.t 29)
       (.seq
        (.reg none [⟨(some 30), .mv (.t 8), none⟩,
          ⟨(some 31), .bin .eql (.t 30) (.c (.int .i64 2)), none⟩,
          ⟨(some 32), .mv (.t 31), none⟩,
          ⟨(some 33), .mv (.t 8), some (32, false)⟩,
          ⟨(some 34), .bin .eql (.t 33) (.c (.int .i64 6)), some (32, false)⟩,
          ⟨(some 35), .pick (.t 32) (.c (.b true)) (.t 34), none⟩,
          ⟨(some 36), .mv (.t 35), none⟩,
          ⟨(some 37), .call 25 [], some (36, true)⟩,
          ⟨(some 38), .pick (.t 36) (.t 37) (.c (.b false)), none⟩,
          ⟨(some 6), .mv (.t 38), none⟩])
        .ret)
       .skip))
     (.seq
      (.seq
       (.reg none [⟨(some 39), .load (some 2) (.t 7), none⟩,
         ⟨(some 40), .call 21 [(.t 39)], none⟩,
         ⟨(some 41), .call 38 [(.t 40)], none⟩,
         ⟨(some 42), .un .not (.t 41), none⟩,
         ⟨(some 43), .mv (.t 42), none⟩,
         ⟨(some 44), .faddr 0 (.t 7), some (43, false)⟩,
         ⟨(some 45), .load none (.t 44), some (43, false)⟩,
         ⟨(some 46), .mv (.t 0), some (43, false)⟩,
         ⟨(some 47), .bin .neq (.t 45) (.t 46), some (43, false)⟩,
         ⟨(some 48), .pick (.t 43) (.c (.b true)) (.t 47), none⟩,
         ⟨(some 49), .mv (.t 48), none⟩,
         ⟨(some 50), .load (some 2) (.t 7), some (49, false)⟩,
         ⟨(some 51), .call 21 [(.t 50)], some (49, false)⟩,
         ⟨(some 52), .call 39 [(.t 51)], some (49, false)⟩,
         ⟨(some 53), .mv (.t 1), some (49, false)⟩,
         ⟨(some 54), .bin .neq (.t 52) (.t 53), some (49, false)⟩,
         ⟨(some 55), .pick (.t 49) (.c (.b true)) (.t 54), none⟩,
         ⟨(some 56), .mv (.t 55), none⟩,
         ⟨(some 57), .faddr 1 (.t 7), some (56, false)⟩,
         ⟨(some 58), .load none (.t 57), some (56, false)⟩,
         ⟨(some 59), .iaddr 1 (.t 58) (.c (.int .i64 0)), some (56, false)⟩,
         ⟨(some 60), .load none (.t 59), some (56, false)⟩,
         ⟨(some 61), .call 59 [(.t 60), (.c (.fn 60 [] []))], some (56, false)⟩,
         ⟨(some 62), .pick (.t 56) (.c (.b true)) (.t 61), none⟩])
       (.cond (.t 62)
        (.seq
         (.reg none [⟨(some 6), .mv (.c (.b false)), none⟩])
         .ret)
        .skip))
      (.seq
       (.reg none [⟨(some 9), .mv (.c (.int .i64 (-1))), none⟩,
         ⟨(some 10), .mv (.c (.int .i64 (-1))), none⟩])
       (.seq
        (.seq
         (.reg none [⟨(some 11), .mv (.c (.int .i64 1)), none⟩])
         (.block 0
          (.loop
           (.seq
            (.seq
             (.reg none [⟨(some 63), .mv (.t 11), none⟩,
               ⟨(some 64), .faddr 1 (.t 7), none⟩,
               ⟨(some 65), .load none (.t 64), none⟩,
               ⟨(some 66), .len (.t 65), none⟩,
               ⟨(some 67), .bin .leq (.t 63) (.t 66), none⟩])
             (.cond (.t 67)
              .skip
              (.exit 0)))
            (.seq
             (.block 1
              (.seq
               (.reg none [⟨(some 71), .mv (.t 0), none⟩,
                 ⟨(some 72), .faddr 1 (.t 7), none⟩,
                 ⟨(some 73), .load none (.t 72), none⟩,
                 ⟨(some 74), .mv (.t 11), none⟩,
                 ⟨(some 75), .slice 1 (.t 73) none (some (.t 74)) none, none⟩,
                 ⟨(some 76), .build [(.int .i64 0), .nils] [(0, 1, (.t 71)), (1, 1, (.t 75))], none⟩,
                 ⟨(some 77), .call 32 [(.t 76)], none⟩,
                 ⟨(some 78), .mv (.t 2), none⟩,
                 ⟨(some 79), .call 61 [(.t 77), (.t 78)], none⟩,
                 ⟨(some 70), .mv (.t 79), none⟩,
                 ⟨(some 80), .extr (.t 70) 0, none⟩,
                 ⟨(some 81), .extr (.t 70) 1, none⟩,
                 ⟨(some 12), .mv (.t 80), none⟩,
                 ⟨(some 13), .mv (.t 81), none⟩])
               (.seq
                (.seq
                 (.reg none [⟨(some 82), .mv (.t 13), none⟩,
                   ⟨(some 83), .bin .neq (.t 82) (.c (.int .i64 0)), none⟩,
                   ⟨(some 84), .mv (.t 83), none⟩,
                   ⟨(some 85), .mv (.t 9), some (84, false)⟩,
                   ⟨(some 86), .bin .geq (.t 85) (.c (.int .i64 0)), some (84, false)⟩,
                   ⟨(some 87), .mv (.t 86), some (84, false)⟩,
                   ⟨(some 88), .mv (.t 12), some (87, true)⟩,
                   ⟨(some 89), .len (.t 88), some (87, true)⟩,
                   ⟨(some 90), .mv (.t 9), some (87, true)⟩,
                   ⟨(some 91), .bin .geq (.t 89) (.t 90), some (87, true)⟩,
                   ⟨(some 92), .mv (.t 91), some (87, true)⟩,
                   ⟨(some 93), .mv (.t 10), some (92, false)⟩,
                   ⟨(some 94), .bin .geq (.t 93) (.c (.int .i64 0)), some (92, false)⟩,
                   ⟨(some 95), .mv (.t 94), some (92, false)⟩,
                   ⟨(some 96), .mv (.t 9), some (95, true)⟩,
                   ⟨(some 97), .mv (.t 12), some (95, true)⟩,
                   ⟨(some 98), .len (.t 97), some (95, true)⟩,
                   ⟨(some 99), .bin .sub (.t 96) (.t 98), some (95, true)⟩,
                   ⟨(some 100), .mv (.t 10), some (95, true)⟩,
                   ⟨(some 101), .bin .gtr (.t 99) (.t 100), some (95, true)⟩,
                   ⟨(some 102), .pick (.t 95) (.t 101) (.c (.b false)), some (92, false)⟩,
                   ⟨(some 103), .pick (.t 92) (.c (.b true)) (.t 102), some (87, true)⟩,
                   ⟨(some 104), .pick (.t 87) (.t 103) (.c (.b false)), some (84, false)⟩,
                   ⟨(some 105), .pick (.t 84) (.c (.b true)) (.t 104), none⟩])
                 (.cond (.t 105)
                  (.seq
                   (.reg none [⟨(some 6), .mv (.c (.b false)), none⟩])
                   .ret)
                  .skip))
                (.seq
                 (.seq
                  (.reg none [⟨(some 106), .mv (.t 9), none⟩,
                    ⟨(some 107), .bin .geq (.t 106) (.c (.int .i64 0)), none⟩])
                  (.cond (.t 107)
                   (.reg none [⟨(some 108), .mv (.t 9), none⟩,
                     ⟨(some 109), .mv (.t 12), none⟩,
                     ⟨(some 110), .len (.t 109), none⟩,
                     ⟨(some 111), .bin .sub (.t 108) (.t 110), none⟩,
                     ⟨(some 10), .mv (.t 111), none⟩])
                   .skip))
                 (.reg none [⟨(some 112), .mv (.t 12), none⟩,
                   ⟨(some 113), .len (.t 112), none⟩,
                   ⟨(some 9), .mv (.t 113), none⟩])))))
             (.reg none [⟨(some 68), .mv (.t 11), none⟩,
               ⟨(some 69), .bin .add (.t 68) (.c (.int .i64 1)), none⟩,
               ⟨(some 11), .mv (.t 69), none⟩]))))))
        (.seq
         (.reg none [⟨(some 114), .mv (.t 9), none⟩,
           ⟨(some 115), .bin .eql (.t 114) (.c (.int .i64 0)), none⟩,
           ⟨(some 116), .mv (.t 115), none⟩,
           ⟨(some 117), .call 25 [], some (116, true)⟩,
           ⟨(some 118), .pick (.t 116) (.t 117) (.c (.b false)), none⟩,
           ⟨(some 6), .mv (.t 118), none⟩])
         .ret))))))) }
theorem f12P : prepF C Try.f12 = some f12A := by kernel_rfl

/-- congou/congoulaw09.own -/
def f21A : AFunc :=
{ nargs := 1, res := [.c 2 (some 2)], body :=
  (.seq
   (.reg none [⟨(some 1), .box (.t 0), none⟩,
     ⟨(some 2), .alloc [(.int .i64 0), .nils], none⟩])
   (.seq
    (.reg none [⟨(some 3), .faddr 0 (.t 1), none⟩,
      ⟨(some 4), .load none (.t 3), none⟩,
      ⟨(some 5), .faddr 1 (.t 1), none⟩,
      ⟨(some 6), .load none (.t 5), none⟩,
      ⟨(some 7), .build [(.int .i64 0), .nils] [(0, 1, (.t 4)), (1, 1, (.t 6))], none⟩,
      ⟨none, .store 2 (.t 2) (.t 7), none⟩])
    .ret)) }
theorem f21P : prepF C Try.f21 = some f21A := by kernel_rfl

/-- congou/congoulaw09.awake -/
def f25A : AFunc :=
{ nargs := 0, res := [.t 0], body :=
  (.seq
   (.reg none [⟨(some 0), .mv (.c (.b false)), none⟩])
   (.seq
    (.reg none [⟨(some 4), .bslice [(.int .i64 0)] 3 1 [(0, (.c (.int .i64 0))), (1, (.c (.int .i64 0))), (2, (.c (.int .i64 1)))], none⟩,
      ⟨(some 5), .bslice [(.int .i64 0)] 3 1 [(0, (.c (.int .i64 1))), (1, (.c (.int .i64 0))), (2, (.c (.int .i64 0)))], none⟩,
      ⟨(some 6), .bslice [.nils] 2 1 [(0, (.t 4)), (1, (.t 5))], none⟩,
      ⟨(some 7), .build [(.int .i64 0), .nils] [(0, 1, (.c (.int .i64 2))), (1, 1, (.t 6))], none⟩,
      ⟨(some 8), .call 47 [(.t 7)], none⟩,
      ⟨(some 3), .mv (.t 8), none⟩,
      ⟨(some 9), .extr (.t 3) 0, none⟩,
      ⟨(some 10), .extr (.t 3) 1, none⟩,
      ⟨(some 1), .mv (.t 9), none⟩,
      ⟨(some 2), .mv (.t 10), none⟩])
    (.seq
     (.reg none [⟨(some 11), .mv (.t 1), none⟩,
       ⟨(some 12), .bin .eql (.t 11) (.c (.int .i64 2)), none⟩,
       ⟨(some 13), .mv (.t 12), none⟩,
       ⟨(some 14), .mv (.t 2), some (13, true)⟩,
       ⟨(some 15), .bin .eql (.t 14) (.c (.int .i64 0)), some (13, true)⟩,
       ⟨(some 16), .pick (.t 13) (.t 15) (.c (.b false)), none⟩,
       ⟨(some 0), .mv (.t 16), none⟩])
     .ret))) }
theorem f25P : prepF C Try.f25 = some f25A := by kernel_rfl

/-- congou/congoulaw09.Of -/
def f32A : AFunc :=
{ nargs := 1, res := [.c 2 (some 2)], body :=
  (.seq
   (.reg none [⟨(some 1), .box (.t 0), none⟩,
     ⟨(some 2), .alloc [(.int .i64 0), .nils], none⟩])
   (.seq
    (.reg none [⟨(some 6), .faddr 0 (.t 1), none⟩,
      ⟨(some 7), .load none (.t 6), none⟩,
      ⟨(some 8), .build [(.int .i64 0), .nils] [(0, 1, (.t 7))], none⟩,
      ⟨(some 3), .alloc [(.int .i64 0), .nils], none⟩,
      ⟨none, .store 2 (.t 3) (.t 8), none⟩])
    (.seq
     (.seq
      (.reg none [⟨(some 9), .faddr 1 (.t 1), none⟩,
        ⟨(some 10), .load none (.t 9), none⟩,
        ⟨(some 11), .len (.t 10), none⟩,
        ⟨(some 12), .mv (.c (.int .i64 0)), none⟩])
      (.block 0
       (.loop
        (.seq
         (.reg none [⟨(some 13), .bin .lss (.t 12) (.t 11), none⟩])
         (.seq
          (.cond (.t 13)
           .skip
           (.exit 0))
          (.seq
           (.block 1
            (.seq
             (.reg none [⟨(some 14), .mv (.t 12), none⟩,
               ⟨(some 15), .iaddr 1 (.t 10) (.t 12), none⟩,
               ⟨(some 16), .load none (.t 15), none⟩,
               ⟨(some 4), .mv (.t 14), none⟩,
               ⟨(some 5), .mv (.t 16), none⟩])
             (.seq
              (.reg none [⟨(some 17), .mv (.t 4), none⟩,
                ⟨(some 18), .bin .lss (.t 17) (.c (.int .i64 19)), none⟩])
              (.cond (.t 18)
               (.reg (some []) [⟨(some 19), .faddr 1 (.t 3), none⟩,
                 ⟨(some 20), .load none (.t 19), none⟩,
                 ⟨(some 21), .mv (.t 5), none⟩,
                 ⟨(some 22), .call 35 [(.t 21)], none⟩,
                 ⟨(some 23), .bslice [.nils] 1 1 [(0, (.t 22))], none⟩,
                 ⟨(some 24), .append 1 24 (.t 20) (.t 23), none⟩,
                 ⟨(some 25), .faddr 1 (.t 3), none⟩,
                 ⟨none, .store 1 (.t 25) (.t 24), none⟩])
               .skip))))
           (.reg none [⟨(some 26), .bin .add (.t 12) (.c (.int .i64 1)), none⟩,
             ⟨(some 12), .mv (.t 26), none⟩])))))))
     (.seq
      (.reg none [⟨(some 27), .load (some 2) (.t 3), none⟩,
        ⟨none, .store 2 (.t 2) (.t 27), none⟩])
      .ret)))) }
theorem f32P : prepF C Try.f32 = some f32A := by kernel_rfl

/-- congou/congoulaw09.list -/
def f35A : AFunc :=
{ nargs := 1, res := [.t 2], body :=
  (.seq
   (.reg none [⟨(some 2), .mv (.c .nils), none⟩])
   (.seq
    (.reg none [⟨(some 3), .mv (.t 0), none⟩,
      ⟨(some 4), .mv (.t 0), none⟩,
      ⟨(some 5), .len (.t 4), none⟩,
      ⟨(some 6), .mn [(.t 5), (.c (.int .i64 11))], none⟩,
      ⟨(some 7), .slice 1 (.t 3) none (some (.t 6)) none, none⟩,
      ⟨(some 8), .call 82 [(.t 7)], none⟩,
      ⟨(some 2), .mv (.t 8), none⟩])
    .ret)) }
theorem f35P : prepF C Try.f35 = some f35A := by kernel_rfl

/-- congou/congouref09.Valid -/
def f38A : AFunc :=
{ nargs := 1, res := [.t 2], body :=
  (.seq
   (.reg none [⟨(some 1), .box (.t 0), none⟩,
     ⟨(some 2), .mv (.c (.b false)), none⟩])
   (.seq
    (.seq
     (.reg none [⟨(some 7), .faddr 0 (.t 1), none⟩,
       ⟨(some 8), .load none (.t 7), none⟩,
       ⟨(some 9), .bin .lss (.t 8) (.c (.int .i64 2)), none⟩,
       ⟨(some 10), .mv (.t 9), none⟩,
       ⟨(some 11), .faddr 0 (.t 1), some (10, false)⟩,
       ⟨(some 12), .load none (.t 11), some (10, false)⟩,
       ⟨(some 13), .bin .gtr (.t 12) (.c (.int .i64 4)), some (10, false)⟩,
       ⟨(some 14), .pick (.t 10) (.c (.b true)) (.t 13), none⟩,
       ⟨(some 15), .mv (.t 14), none⟩,
       ⟨(some 16), .faddr 1 (.t 1), some (15, false)⟩,
       ⟨(some 17), .load none (.t 16), some (15, false)⟩,
       ⟨(some 18), .len (.t 17), some (15, false)⟩,
       ⟨(some 19), .bin .lss (.t 18) (.c (.int .i64 1)), some (15, false)⟩,
       ⟨(some 20), .pick (.t 15) (.c (.b true)) (.t 19), none⟩,
       ⟨(some 21), .mv (.t 20), none⟩,
       ⟨(some 22), .faddr 1 (.t 1), some (21, false)⟩,
       ⟨(some 23), .load none (.t 22), some (21, false)⟩,
       ⟨(some 24), .len (.t 23), some (21, false)⟩,
       ⟨(some 25), .bin .gtr (.t 24) (.c (.int .i64 16)), some (21, false)⟩,
       ⟨(some 26), .pick (.t 21) (.c (.b true)) (.t 25), none⟩])
     (.cond (.t 26)
      (.seq
       (.reg none [⟨(some 2), .mv (.c (.b false)), none⟩])
       .ret)
      .skip))
    (.seq
     (.seq
      (.reg none [⟨(some 27), .faddr 1 (.t 1), none⟩,
        ⟨(some 28), .load none (.t 27), none⟩,
        ⟨(some 29), .len (.t 28), none⟩,
        ⟨(some 30), .mv (.c (.int .i64 0)), none⟩])
      (.block 0
       (.loop
        (.seq
         (.reg none [⟨(some 31), .bin .lss (.t 30) (.t 29), none⟩])
         (.seq
          (.cond (.t 31)
           .skip
           (.exit 0))
          (.seq
           (.block 1
            (.seq
             (.reg none [⟨(some 32), .iaddr 1 (.t 28) (.t 30), none⟩,
               ⟨(some 33), .load none (.t 32), none⟩,
               ⟨(some 4), .mv (.t 33), none⟩])
             (.seq
              (.seq
               (.reg none [⟨(some 34), .mv (.t 4), none⟩,
                 ⟨(some 35), .len (.t 34), none⟩,
                 ⟨(some 36), .faddr 1 (.t 1), none⟩,
                 ⟨(some 37), .load none (.t 36), none⟩,
                 ⟨(some 38), .iaddr 1 (.t 37) (.c (.int .i64 0)), none⟩,
                 ⟨(some 39), .load none (.t 38), none⟩,
                 ⟨(some 40), .len (.t 39), none⟩,
                 ⟨(some 41), .bin .neq (.t 35) (.t 40), none⟩,
                 ⟨(some 42), .mv (.t 41), none⟩,
                 ⟨(some 43), .mv (.t 4), some (42, false)⟩,
                 ⟨(some 44), .len (.t 43), some (42, false)⟩,
                 ⟨(some 45), .bin .lss (.t 44) (.c (.int .i64 1)), some (42, false)⟩,
                 ⟨(some 46), .pick (.t 42) (.c (.b true)) (.t 45), none⟩,
                 ⟨(some 47), .mv (.t 46), none⟩,
                 ⟨(some 48), .mv (.t 4), some (47, false)⟩,
                 ⟨(some 49), .len (.t 48), some (47, false)⟩,
                 ⟨(some 50), .bin .gtr (.t 49) (.c (.int .i64 8)), some (47, false)⟩,
                 ⟨(some 51), .pick (.t 47) (.c (.b true)) (.t 50), none⟩])
               (.cond (.t 51)
                (.seq
                 (.reg none [⟨(some 2), .mv (.c (.b false)), none⟩])
                 .ret)
                .skip))
              (.seq
               (.reg none [⟨(some 52), .mv (.t 4), none⟩,
                 ⟨(some 53), .len (.t 52), none⟩,
                 ⟨(some 54), .mv (.c (.int .i64 0)), none⟩])
               (.block 2
                (.loop
                 (.seq
                  (.reg none [⟨(some 55), .bin .lss (.t 54) (.t 53), none⟩])
                  (.seq
                   (.cond (.t 55)
                    .skip
                    (.exit 2))
                   (.seq
                    (.block 3
                     (.seq
                      (.reg none [⟨(some 56), .iaddr 1 (.t 52) (.t 54), none⟩,
                        ⟨(some 57), .load none (.t 56), none⟩,
                        ⟨(some 6), .mv (.t 57), none⟩])
                      (.seq
                       (.reg none [⟨(some 58), .mv (.t 6), none⟩,
                         ⟨(some 59), .bin .lss (.t 58) (.c (.int .i64 0)), none⟩,
                         ⟨(some 60), .mv (.t 59), none⟩,
                         ⟨(some 61), .mv (.t 6), some (60, false)⟩,
                         ⟨(some 62), .faddr 0 (.t 1), some (60, false)⟩,
                         ⟨(some 63), .load none (.t 62), some (60, false)⟩,
                         ⟨(some 64), .bin .geq (.t 61) (.t 63), some (60, false)⟩,
                         ⟨(some 65), .pick (.t 60) (.c (.b true)) (.t 64), none⟩])
                       (.cond (.t 65)
                        (.seq
                         (.reg none [⟨(some 2), .mv (.c (.b false)), none⟩])
                         .ret)
                        .skip))))
                    (.reg none [⟨(some 66), .bin .add (.t 54) (.c (.int .i64 1)), none⟩,
                      ⟨(some 54), .mv (.t 66), none⟩]))))))))))
           (.reg none [⟨(some 67), .bin .add (.t 30) (.c (.int .i64 1)), none⟩,
             ⟨(some 30), .mv (.t 67), none⟩])))))))
     (.seq
      (.reg none [⟨(some 2), .mv (.c (.b true)), none⟩])
      .ret)))) }
theorem f38P : prepF C Try.f38 = some f38A := by kernel_rfl

/-- congou/congouref09.Width -/
def f39A : AFunc :=
{ nargs := 1, res := [.t 2], body :=
  (.seq
   (.reg none [⟨(some 1), .box (.t 0), none⟩,
     ⟨(some 2), .mv (.c (.int .i64 0)), none⟩])
   (.seq
    (.reg none [⟨(some 3), .faddr 1 (.t 1), none⟩,
      ⟨(some 4), .load none (.t 3), none⟩,
      ⟨(some 5), .iaddr 1 (.t 4) (.c (.int .i64 0)), none⟩,
      ⟨(some 6), .load none (.t 5), none⟩,
      ⟨(some 7), .len (.t 6), none⟩,
      ⟨(some 2), .mv (.t 7), none⟩])
    .ret)) }
theorem f39P : prepF C Try.f39 = some f39A := by kernel_rfl

/-- congou/arrays.Greedy -/
def f43A : AFunc :=
{ nargs := 3, res := [.c 6 (some 2), .t 7], body :=
  (.seq
   (.reg none [⟨(some 6), .alloc [(.int .i64 0), .nils], none⟩,
     ⟨(some 7), .mv (.c (.int .i64 0)), none⟩])
   (.seq
    (.seq
     (.reg none [⟨(some 9), .mv (.t 0), none⟩,
       ⟨(some 10), .bin .lss (.t 9) (.c (.int .i64 2)), none⟩,
       ⟨(some 11), .mv (.t 10), none⟩,
       ⟨(some 12), .mv (.t 0), some (11, false)⟩,
       ⟨(some 13), .bin .gtr (.t 12) (.c (.int .i64 3)), some (11, false)⟩,
       ⟨(some 14), .pick (.t 11) (.c (.b true)) (.t 13), none⟩,
       ⟨(some 15), .mv (.t 14), none⟩,
       ⟨(some 16), .mv (.t 2), some (15, false)⟩,
       ⟨(some 17), .bin .lss (.t 16) (.c (.int .i64 1)), some (15, false)⟩,
       ⟨(some 18), .pick (.t 15) (.c (.b true)) (.t 17), none⟩,
       ⟨(some 19), .mv (.t 18), none⟩,
       ⟨(some 20), .mv (.t 2), some (19, false)⟩,
       ⟨(some 21), .bin .gtr (.t 20) (.c (.int .i64 2)), some (19, false)⟩,
       ⟨(some 22), .pick (.t 19) (.c (.b true)) (.t 21), none⟩,
       ⟨(some 23), .mv (.t 22), none⟩,
       ⟨(some 24), .mv (.t 1), some (23, false)⟩,
       ⟨(some 25), .mv (.t 2), some (23, false)⟩,
       ⟨(some 26), .bin .lss (.t 24) (.t 25), some (23, false)⟩,
       ⟨(some 27), .pick (.t 23) (.c (.b true)) (.t 26), none⟩,
       ⟨(some 28), .mv (.t 27), none⟩,
       ⟨(some 29), .mv (.t 1), some (28, false)⟩,
       ⟨(some 30), .bin .gtr (.t 29) (.c (.int .i64 4)), some (28, false)⟩,
       ⟨(some 31), .pick (.t 28) (.c (.b true)) (.t 30), none⟩])
     (.cond (.t 31)
      (.seq
       (.reg none [⟨(some 32), .build [(.int .i64 0), .nils] [], none⟩,
         ⟨none, .store 2 (.t 6) (.t 32), none⟩,
         ⟨(some 7), .mv (.c (.int .i64 2)), none⟩])
       .ret)
      .skip))
    (.seq
     (.reg none [⟨(some 33), .mv (.t 0), none⟩,
       ⟨(some 34), .mv (.t 1), none⟩,
       ⟨(some 35), .mkslice 1 8 [(.int .i64 0)] (.t 34), none⟩,
       ⟨(some 36), .bslice [.nils] 1 1 [(0, (.t 35))], none⟩,
       ⟨(some 37), .build [(.int .i64 0), .nils] [(0, 1, (.t 33)), (1, 1, (.t 36))], none⟩,
       ⟨(some 8), .alloc [(.int .i64 0), .nils], none⟩,
       ⟨none, .store 2 (.t 8) (.t 37), none⟩])
     (.seq
      (.block 0
       (.loop
        (.seq
         (.seq
          (.reg none [⟨(some 38), .load (some 2) (.t 8), none⟩,
            ⟨(some 39), .mv (.t 2), none⟩,
            ⟨(some 40), .call 84 [(.t 38), (.t 39)], none⟩,
            ⟨(some 41), .len (.t 40), none⟩,
            ⟨(some 42), .bin .gtr (.t 41) (.c (.int .i64 0)), none⟩])
          (.cond (.t 42)
           .skip
           (.exit 0)))
         (.block 1
          (.seq
           (.seq
            (.reg none [⟨(some 43), .faddr 1 (.t 8), none⟩,
              ⟨(some 44), .load none (.t 43), none⟩,
              ⟨(some 45), .len (.t 44), none⟩,
              ⟨(some 46), .bin .eql (.t 45) (.c (.int .i64 16)), none⟩])
            (.cond (.t 46)
             (.seq
              (.reg none [⟨(some 47), .build [(.int .i64 0), .nils] [], none⟩,
                ⟨none, .store 2 (.t 6) (.t 47), none⟩,
                ⟨(some 7), .mv (.c (.int .i64 6)), none⟩])
              .ret)
             .skip))
           (.reg (some []) [⟨(some 48), .faddr 1 (.t 8), none⟩,
             ⟨(some 49), .load none (.t 48), none⟩,
             ⟨(some 50), .load (some 2) (.t 8), none⟩,
             ⟨(some 51), .mv (.t 2), none⟩,
             ⟨(some 52), .call 85 [(.t 50), (.t 51)], none⟩,
             ⟨(some 53), .bslice [.nils] 1 1 [(0, (.t 52))], none⟩,
             ⟨(some 54), .append 1 24 (.t 49) (.t 53), none⟩,
             ⟨(some 55), .faddr 1 (.t 8), none⟩,
             ⟨none, .store 1 (.t 55) (.t 54), none⟩]))))))
      (.seq
       (.reg none [⟨(some 56), .load (some 2) (.t 8), none⟩,
         ⟨none, .store 2 (.t 6) (.t 56), none⟩,
         ⟨(some 7), .mv (.c (.int .i64 0)), none⟩])
       .ret))))) }
theorem f43P : prepF C Try.f43 = some f43A := by kernel_rfl

/-- congou/congouref09.Small -/
def f44A : AFunc :=
{ nargs := 3, res := [.t 6], body :=
  (.seq
   (.reg none [⟨(some 6), .mv (.c (.b false)), none⟩])
   (.seq
    (.reg none [⟨(some 7), .mv (.t 0), none⟩,
      ⟨(some 8), .bin .eql (.t 7) (.c (.int .i64 2)), none⟩,
      ⟨(some 9), .mv (.t 8), none⟩,
      ⟨(some 10), .mv (.t 0), some (9, false)⟩,
      ⟨(some 11), .bin .eql (.t 10) (.c (.int .i64 3)), some (9, false)⟩,
      ⟨(some 12), .pick (.t 9) (.c (.b true)) (.t 11), none⟩,
      ⟨(some 13), .mv (.t 12), none⟩,
      ⟨(some 14), .mv (.t 2), some (13, true)⟩,
      ⟨(some 15), .bin .eql (.t 14) (.c (.int .i64 1)), some (13, true)⟩,
      ⟨(some 16), .mv (.t 15), some (13, true)⟩,
      ⟨(some 17), .mv (.t 2), some (16, false)⟩,
      ⟨(some 18), .bin .eql (.t 17) (.c (.int .i64 2)), some (16, false)⟩,
      ⟨(some 19), .pick (.t 16) (.c (.b true)) (.t 18), some (13, true)⟩,
      ⟨(some 20), .pick (.t 13) (.t 19) (.c (.b false)), none⟩,
      ⟨(some 21), .mv (.t 20), none⟩,
      ⟨(some 22), .mv (.t 1), some (21, true)⟩,
      ⟨(some 23), .mv (.t 2), some (21, true)⟩,
      ⟨(some 24), .bin .geq (.t 22) (.t 23), some (21, true)⟩,
      ⟨(some 25), .pick (.t 21) (.t 24) (.c (.b false)), none⟩,
      ⟨(some 26), .mv (.t 25), none⟩,
      ⟨(some 27), .mv (.t 1), some (26, true)⟩,
      ⟨(some 28), .bin .leq (.t 27) (.c (.int .i64 4)), some (26, true)⟩,
      ⟨(some 29), .pick (.t 26) (.t 28) (.c (.b false)), none⟩,
      ⟨(some 6), .mv (.t 29), none⟩])
    .ret)) }
theorem f44P : prepF C Try.f44 = some f44A := by kernel_rfl

/-- congou/arrays.Distance -/
def f47A : AFunc :=
{ nargs := 1, res := [.t 2, .t 3], body :=
  (.seq
   (.reg none [⟨(some 1), .box (.t 0), none⟩,
     ⟨(some 2), .mv (.c (.int .i64 0)), none⟩,
     ⟨(some 3), .mv (.c (.int .i64 0)), none⟩])
   (.seq
    (.block 0
     (.seq
      (.reg none [⟨(some 12), .load (some 2) (.t 1), none⟩,
        ⟨(some 13), .call 74 [(.t 12)], none⟩,
        ⟨(some 14), .un .not (.t 13), none⟩,
        ⟨(some 11), .mv (.t 14), none⟩])
      (.cond (.t 11)
       (.seq
        (.reg none [⟨(some 2), .mv (.c (.int .i64 0)), none⟩,
          ⟨(some 3), .mv (.c (.int .i64 2)), none⟩])
        .ret)
       (.seq
        (.reg none [⟨(some 16), .faddr 1 (.t 1), none⟩,
          ⟨(some 17), .load none (.t 16), none⟩,
          ⟨(some 18), .len (.t 17), none⟩,
          ⟨(some 19), .bin .eql (.t 18) (.c (.int .i64 1)), none⟩,
          ⟨(some 15), .mv (.t 19), none⟩])
        (.cond (.t 15)
         (.seq
          (.reg none [⟨(some 2), .mv (.c (.int .i64 0)), none⟩,
            ⟨(some 3), .mv (.c (.int .i64 4)), none⟩])
          .ret)
         .skip)))))
    (.seq
     (.reg none [⟨(some 20), .load (some 2) (.t 1), none⟩,
       ⟨(some 21), .call 75 [(.t 20)], none⟩,
       ⟨(some 4), .mv (.t 21), none⟩])
     (.seq
      (.seq
       (.reg none [⟨(some 22), .faddr 1 (.t 1), none⟩,
         ⟨(some 23), .load none (.t 22), none⟩,
         ⟨(some 24), .len (.t 23), none⟩,
         ⟨(some 25), .mv (.c (.int .i64 0)), none⟩])
       (.block 1
        (.loop
         (.seq
          (.reg none [⟨(some 26), .bin .lss (.t 25) (.t 24), none⟩])
          (.seq
           (.cond (.t 26)
            .skip
            (.exit 1))
           (.seq
            (.block 2
             (.seq
              (.reg none [⟨(some 27), .mv (.t 25), none⟩,
                ⟨(some 28), .iaddr 1 (.t 23) (.t 25), none⟩,
                ⟨(some 29), .load none (.t 28), none⟩,
                ⟨(some 5), .mv (.t 27), none⟩,
                ⟨(some 6), .mv (.t 29), none⟩])
              (.seq
               (.reg none [⟨(some 30), .faddr 1 (.t 1), none⟩,
                 ⟨(some 31), .load none (.t 30), none⟩,
                 ⟨(some 32), .mv (.t 5), none⟩,
                 ⟨(some 33), .slice 1 (.t 31) none (some (.t 32)) none, none⟩,
                 ⟨(some 34), .len (.t 33), none⟩,
                 ⟨(some 35), .mv (.c (.int .i64 0)), none⟩])
               (.block 3
                (.loop
                 (.seq
                  (.reg none [⟨(some 36), .bin .lss (.t 35) (.t 34), none⟩])
                  (.seq
                   (.cond (.t 36)
                    .skip
                    (.exit 3))
                   (.seq
                    (.block 4
                     (.seq
                      (.reg none [⟨(some 37), .iaddr 1 (.t 33) (.t 35), none⟩,
                        ⟨(some 38), .load none (.t 37), none⟩,
                        ⟨(some 8), .mv (.t 38), none⟩])
                      (.seq
                       (.reg none [⟨(some 9), .mv (.c (.int .i64 0)), none⟩])
                       (.seq
                        (.seq
                         (.reg none [⟨(some 39), .mv (.t 6), none⟩,
                           ⟨(some 40), .len (.t 39), none⟩,
                           ⟨(some 41), .mv (.c (.int .i64 0)), none⟩])
                         (.block 5
                          (.loop
                           (.seq
                            (.reg none [⟨(some 42), .bin .lss (.t 41) (.t 40), none⟩])
                            (.seq
                             (.cond (.t 42)
                              .skip
                              (.exit 5))
                             (.seq
                              (.block 6
                               (.seq
                                (.reg none [⟨(some 43), .mv (.t 41), none⟩,
                                  ⟨(some 10), .mv (.t 43), none⟩])
                                (.seq
                                 (.reg (some []) [⟨(some 44), .mv (.t 6), none⟩,
                                   ⟨(some 45), .mv (.t 10), none⟩,
                                   ⟨(some 46), .iaddr 1 (.t 44) (.t 45), none⟩,
                                   ⟨(some 47), .load none (.t 46), none⟩,
                                   ⟨(some 48), .mv (.t 8), none⟩,
                                   ⟨(some 49), .mv (.t 10), none⟩,
                                   ⟨(some 50), .iaddr 1 (.t 48) (.t 49), none⟩,
                                   ⟨(some 51), .load none (.t 50), none⟩,
                                   ⟨(some 52), .bin .neq (.t 47) (.t 51), none⟩])
                                 (.cond (.t 52)
                                  (.reg none [⟨(some 53), .mv (.t 9), none⟩,
                                    ⟨(some 54), .bin .add (.t 53) (.c (.int .i64 1)), none⟩,
                                    ⟨(some 9), .mv (.t 54), none⟩])
                                  .skip))))
                              (.reg none [⟨(some 55), .bin .add (.t 41) (.c (.int .i64 1)), none⟩,
                                ⟨(some 41), .mv (.t 55), none⟩])))))))
                        (.reg none [⟨(some 56), .mv (.t 4), none⟩,
                          ⟨(some 57), .mv (.t 9), none⟩,
                          ⟨(some 58), .mn [(.t 56), (.t 57)], none⟩,
                          ⟨(some 4), .mv (.t 58), none⟩])))))
                    (.reg none [⟨(some 59), .bin .add (.t 35) (.c (.int .i64 1)), none⟩,
                      ⟨(some 35), .mv (.t 59), none⟩])))))))))
            (.reg none [⟨(some 60), .bin .add (.t 25) (.c (.int .i64 1)), none⟩,
              ⟨(some 25), .mv (.t 60), none⟩])))))))
      (.seq
       (.reg none [⟨(some 61), .mv (.t 4), none⟩,
         ⟨(some 2), .mv (.t 61), none⟩,
         ⟨(some 3), .mv (.c (.int .i64 0)), none⟩])
       .ret))))) }
theorem f47P : prepF C Try.f47 = some f47A := by kernel_rfl

/-- slices.ContainsFunc[[]int,int] -/
def f59A : AFunc :=
{ nargs := 2, res := [.t 4], body :=
  (.seq
   (.reg none [⟨(some 4), .mv (.c (.b false)), none⟩])
   (.seq
    (.reg none [⟨(some 5), .mv (.t 0), none⟩,
      ⟨(some 6), .mv (.t 1), none⟩,
      ⟨(some 7), .call 91 [(.t 5), (.t 6)], none⟩,
      ⟨(some 8), .bin .geq (.t 7) (.c (.int .i64 0)), none⟩,
      ⟨(some 4), .mv (.t 8), none⟩])
    .ret)) }
theorem f59P : prepF C Try.f59 = some f59A := by kernel_rfl

/-- congou/congoulaw09.ArraysNew$1 -/
def f60A : AFunc :=
{ nargs := 1, res := [.t 2], body :=
  (.seq
   (.reg none [⟨(some 2), .mv (.c (.b false)), none⟩])
   (.seq
    (.reg none [⟨(some 3), .mv (.t 0), none⟩,
      ⟨(some 4), .bin .neq (.t 3) (.c (.int .i64 0)), none⟩,
      ⟨(some 2), .mv (.t 4), none⟩])
    .ret)) }
theorem f60P : prepF C Try.f60 = some f60A := by kernel_rfl

/-- congou/arrays.Missing -/
def f61A : AFunc :=
{ nargs := 2, res := [.t 4, .t 5], body :=
  (.seq
   (.reg none [⟨(some 2), .box (.t 0), none⟩,
     ⟨(some 4), .mv (.c .nils), none⟩,
     ⟨(some 5), .mv (.c (.int .i64 0)), none⟩])
   (.seq
    (.seq
     (.reg none [⟨(some 6), .load (some 2) (.t 2), none⟩,
       ⟨(some 7), .mv (.t 1), none⟩,
       ⟨(some 8), .call 86 [(.t 6), (.t 7), (.c (.int .i64 2))], none⟩,
       ⟨(some 9), .un .not (.t 8), none⟩])
     (.cond (.t 9)
      (.seq
       (.reg none [⟨(some 4), .mv (.c .nils), none⟩,
         ⟨(some 5), .mv (.c (.int .i64 2)), none⟩])
       .ret)
      .skip))
    (.seq
     (.reg none [⟨(some 10), .load (some 2) (.t 2), none⟩,
       ⟨(some 11), .mv (.t 1), none⟩,
       ⟨(some 12), .call 84 [(.t 10), (.t 11)], none⟩,
       ⟨(some 4), .mv (.t 12), none⟩,
       ⟨(some 5), .mv (.c (.int .i64 0)), none⟩])
     .ret))) }
theorem f61P : prepF C Try.f61 = some f61A := by kernel_rfl

/-- congou/arrays.tuples -/
def f72A : AFunc :=
{ nargs := 3, res := [.t 6], body :=
  (.seq
   (.reg none [⟨(some 3), .box (.t 0), none⟩,
     ⟨(some 4), .box (.t 1), none⟩,
     ⟨(some 5), .box (.t 2), none⟩,
     ⟨(some 6), .mv (.c .nilf), none⟩])
   (.seq
    (.reg none [⟨(some 7), .mkfn 96 [] [(.t 3), (.t 5), (.t 4)], none⟩,
      ⟨(some 6), .mv (.t 7), none⟩])
    .ret)) }
theorem f72P : prepF C Try.f72 = some f72A := by kernel_rfl

/-- (congou/arrays.Array).valid -/
def f74A : AFunc :=
{ nargs := 1, res := [.t 2], body :=
  (.seq
   (.reg none [⟨(some 1), .box (.t 0), none⟩,
     ⟨(some 2), .mv (.c (.b false)), none⟩])
   (.seq
    (.seq
     (.reg none [⟨(some 5), .faddr 0 (.t 1), none⟩,
       ⟨(some 6), .load none (.t 5), none⟩,
       ⟨(some 7), .bin .lss (.t 6) (.c (.int .i64 2)), none⟩,
       ⟨(some 8), .mv (.t 7), none⟩,
       ⟨(some 9), .faddr 0 (.t 1), some (8, false)⟩,
       ⟨(some 10), .load none (.t 9), some (8, false)⟩,
       ⟨(some 11), .bin .gtr (.t 10) (.c (.int .i64 4)), some (8, false)⟩,
       ⟨(some 12), .pick (.t 8) (.c (.b true)) (.t 11), none⟩,
       ⟨(some 13), .mv (.t 12), none⟩,
       ⟨(some 14), .faddr 1 (.t 1), some (13, false)⟩,
       ⟨(some 15), .load none (.t 14), some (13, false)⟩,
       ⟨(some 16), .len (.t 15), some (13, false)⟩,
       ⟨(some 17), .bin .lss (.t 16) (.c (.int .i64 1)), some (13, false)⟩,
       ⟨(some 18), .pick (.t 13) (.c (.b true)) (.t 17), none⟩,
       ⟨(some 19), .mv (.t 18), none⟩,
       ⟨(some 20), .faddr 1 (.t 1), some (19, false)⟩,
       ⟨(some 21), .load none (.t 20), some (19, false)⟩,
       ⟨(some 22), .len (.t 21), some (19, false)⟩,
       ⟨(some 23), .bin .gtr (.t 22) (.c (.int .i64 16)), some (19, false)⟩,
       ⟨(some 24), .pick (.t 19) (.c (.b true)) (.t 23), none⟩])
     (.cond (.t 24)
      (.seq
       (.reg none [⟨(some 2), .mv (.c (.b false)), none⟩])
       .ret)
      .skip))
    (.seq
     (.seq
      (.reg none [⟨(some 25), .faddr 1 (.t 1), none⟩,
        ⟨(some 26), .load none (.t 25), none⟩,
        ⟨(some 27), .len (.t 26), none⟩,
        ⟨(some 28), .mv (.c (.int .i64 0)), none⟩])
      (.block 0
       (.loop
        (.seq
         (.reg none [⟨(some 29), .bin .lss (.t 28) (.t 27), none⟩])
         (.seq
          (.cond (.t 29)
           .skip
           (.exit 0))
          (.seq
           (.block 1
            (.seq
             (.reg none [⟨(some 30), .iaddr 1 (.t 26) (.t 28), none⟩,
               ⟨(some 31), .load none (.t 30), none⟩,
               ⟨(some 4), .mv (.t 31), none⟩])
             (.seq
              (.reg (some []) [⟨(some 32), .mv (.t 4), none⟩,
                ⟨(some 33), .len (.t 32), none⟩,
                ⟨(some 34), .bin .lss (.t 33) (.c (.int .i64 1)), none⟩,
                ⟨(some 35), .mv (.t 34), none⟩,
                ⟨(some 36), .mv (.t 4), some (35, false)⟩,
                ⟨(some 37), .len (.t 36), some (35, false)⟩,
                ⟨(some 38), .bin .gtr (.t 37) (.c (.int .i64 8)), some (35, false)⟩,
                ⟨(some 39), .pick (.t 35) (.c (.b true)) (.t 38), none⟩,
                ⟨(some 40), .mv (.t 39), none⟩,
                ⟨(some 41), .mv (.t 4), some (40, false)⟩,
                ⟨(some 42), .len (.t 41), some (40, false)⟩,
                ⟨(some 43), .faddr 1 (.t 1), some (40, false)⟩,
                ⟨(some 44), .load none (.t 43), some (40, false)⟩,
                ⟨(some 45), .iaddr 1 (.t 44) (.c (.int .i64 0)), some (40, false)⟩,
                ⟨(some 46), .load none (.t 45), some (40, false)⟩,
                ⟨(some 47), .len (.t 46), some (40, false)⟩,
                ⟨(some 48), .bin .neq (.t 42) (.t 47), some (40, false)⟩,
                ⟨(some 49), .pick (.t 40) (.c (.b true)) (.t 48), none⟩,
                ⟨(some 50), .mv (.t 49), none⟩,
                ⟨(some 51), .mv (.t 4), some (50, false)⟩,
                ⟨(some 52), .call 98 [(.t 51)], some (50, false)⟩,
                ⟨(some 53), .bin .lss (.t 52) (.c (.int .i64 0)), some (50, false)⟩,
                ⟨(some 54), .pick (.t 50) (.c (.b true)) (.t 53), none⟩,
                ⟨(some 55), .mv (.t 54), none⟩,
                ⟨(some 56), .mv (.t 4), some (55, false)⟩,
                ⟨(some 57), .call 99 [(.t 56)], some (55, false)⟩,
                ⟨(some 58), .faddr 0 (.t 1), some (55, false)⟩,
                ⟨(some 59), .load none (.t 58), some (55, false)⟩,
                ⟨(some 60), .bin .geq (.t 57) (.t 59), some (55, false)⟩,
                ⟨(some 61), .pick (.t 55) (.c (.b true)) (.t 60), none⟩])
              (.cond (.t 61)
               (.seq
                (.reg none [⟨(some 2), .mv (.c (.b false)), none⟩])
                .ret)
               .skip))))
           (.reg none [⟨(some 62), .bin .add (.t 28) (.c (.int .i64 1)), none⟩,
             ⟨(some 28), .mv (.t 62), none⟩])))))))
     (.seq
      (.reg none [⟨(some 2), .mv (.c (.b true)), none⟩])
      .ret)))) }
theorem f74P : prepF C Try.f74 = some f74A := by kernel_rfl

/-- (congou/arrays.Array).columns -/
def f75A : AFunc :=
{ nargs := 1, res := [.t 2], body :=
  (.seq
   (.reg none [⟨(some 1), .box (.t 0), none⟩,
     ⟨(some 2), .mv (.c (.int .i64 0)), none⟩])
   (.seq
    (.reg none [⟨(some 3), .faddr 1 (.t 1), none⟩,
      ⟨(some 4), .load none (.t 3), none⟩,
      ⟨(some 5), .iaddr 1 (.t 4) (.c (.int .i64 0)), none⟩,
      ⟨(some 6), .load none (.t 5), none⟩,
      ⟨(some 7), .len (.t 6), none⟩,
      ⟨(some 2), .mv (.t 7), none⟩])
    .ret)) }
theorem f75P : prepF C Try.f75 = some f75A := by kernel_rfl

/-- slices.Clone[[]int,int] -/
def f82A : AFunc :=
{ nargs := 1, res := [.t 2], body :=
  (.seq
   (.reg none [⟨(some 2), .mv (.c .nils), none⟩])
   (.seq
    (.seq
     (.reg none [⟨(some 3), .mv (.t 0), none⟩,
       ⟨(some 4), .seq false (.t 3) (.c .nils), none⟩])
     (.cond (.t 4)
      (.seq
       (.reg none [⟨(some 2), .mv (.c .nils), none⟩])
       .ret)
      .skip))
    (.seq
     (.reg none [⟨(some 5), .bslice [(.int .i64 0)] 0 1 [], none⟩,
       ⟨(some 6), .mv (.t 0), none⟩,
       ⟨(some 7), .append 1 8 (.t 5) (.t 6), none⟩,
       ⟨(some 2), .mv (.t 7), none⟩])
     .ret))) }
theorem f82P : prepF C Try.f82 = some f82A := by kernel_rfl

/-- (congou/arrays.Array).missing -/
def f84A : AFunc :=
{ nargs := 2, res := [.t 4], body :=
  (.seq
   (.reg none [⟨(some 2), .box (.t 0), none⟩,
     ⟨(some 4), .mv (.c .nils), none⟩])
   (.seq
    (.reg none [⟨(some 5), .alloc [.nils], none⟩])
    (.seq
     (.seq
      (.reg none [⟨(some 8), .load (some 2) (.t 2), none⟩,
        ⟨(some 9), .mv (.t 1), none⟩,
        ⟨(some 10), .call 87 [(.t 8), (.t 9)], none⟩])
      (.block 0
       (.rangeF 20 (.t 10) [11, 12]
        (.seq
         (.reg none [⟨(some 6), .mv (.t 11), none⟩])
         (.reg none [⟨(some 7), .mv (.t 12), none⟩]))
        (.block 1
         (.seq
          (.reg none [⟨(some 13), .mv (.t 7), none⟩,
            ⟨(some 14), .bin .eql (.t 13) (.c (.int .i64 0)), none⟩])
          (.cond (.t 14)
           (.reg none [⟨(some 15), .load none (.t 5), none⟩,
             ⟨(some 16), .mv (.t 6), none⟩,
             ⟨(some 17), .bslice [.nils] 1 1 [(0, (.t 16))], none⟩,
             ⟨(some 18), .append 1 24 (.t 15) (.t 17), none⟩,
             ⟨none, .store 1 (.t 5) (.t 18), none⟩])
           .skip))))))
     (.seq
      (.reg none [⟨(some 19), .load none (.t 5), none⟩,
        ⟨(some 4), .mv (.t 19), none⟩])
      .ret)))) }
theorem f84P : prepF C Try.f84 = some f84A := by kernel_rfl

/-- (congou/arrays.Array).add -/
def f85A : AFunc :=
{ nargs := 2, res := [.t 4], body :=
  (.seq
   (.reg none [⟨(some 2), .box (.t 0), none⟩,
     ⟨(some 3), .box (.t 1), none⟩,
     ⟨(some 4), .mv (.c .nils), none⟩])
   (.seq
    (.reg none [⟨(some 12), .load (some 2) (.t 2), none⟩,
      ⟨(some 13), .load none (.t 3), none⟩,
      ⟨(some 14), .call 84 [(.t 12), (.t 13)], none⟩,
      ⟨(some 5), .alloc [.nils], none⟩,
      ⟨none, .store 1 (.t 5) (.t 14), none⟩])
    (.seq
     (.reg none [⟨(some 6), .alloc [.nils], none⟩])
     (.seq
      (.reg none [⟨(some 7), .alloc [(.int .i64 0)], none⟩,
        ⟨none, .store 1 (.t 7) (.c (.int .i64 (-1))), none⟩])
      (.seq
       (.seq
        (.reg (some []) [⟨(some 15), .load (some 2) (.t 2), none⟩,
          ⟨(some 16), .call 75 [(.t 15)], none⟩,
          ⟨(some 17), .faddr 0 (.t 2), none⟩,
          ⟨(some 18), .load none (.t 17), none⟩,
          ⟨(some 19), .call 72 [(.t 16), (.t 18), (.c (.b false))], none⟩])
        (.block 0
         (.rangeF 44 (.t 19) [20]
          (.reg none [⟨(some 8), .mv (.t 20), none⟩])
          (.block 1
           (.seq
            (.reg none [⟨(some 9), .mv (.c (.int .i64 0)), none⟩])
            (.seq
             (.seq
              (.reg none [⟨(some 21), .load none (.t 5), none⟩,
                ⟨(some 22), .len (.t 21), none⟩,
                ⟨(some 23), .mv (.c (.int .i64 0)), none⟩])
              (.block 2
               (.loop
                (.seq
                 (.reg none [⟨(some 24), .bin .lss (.t 23) (.t 22), none⟩])
                 (.seq
                  (.cond (.t 24)
                   .skip
                   (.exit 2))
                  (.seq
                   (.block 3
                    (.seq
                     (.reg none [⟨(some 25), .iaddr 1 (.t 21) (.t 23), none⟩,
                       ⟨(some 26), .load none (.t 25), none⟩,
                       ⟨(some 11), .mv (.t 26), none⟩])
                     (.seq
                      (.reg (some []) [⟨(some 27), .mv (.t 8), none⟩,
                        ⟨(some 28), .mv (.t 11), none⟩,
                        ⟨(some 29), .load none (.t 3), none⟩,
                        ⟨(some 30), .slice 1 (.t 28) none (some (.t 29)) none, none⟩,
                        ⟨(some 31), .mv (.t 11), none⟩,
                        ⟨(some 32), .load none (.t 3), none⟩,
                        ⟨(some 33), .slice 1 (.t 31) (some (.t 32)) none none, none⟩,
                        ⟨(some 34), .call 101 [(.t 27), (.t 30), (.t 33)], none⟩])
                      (.cond (.t 34)
                       (.reg none [⟨(some 35), .mv (.t 9), none⟩,
                         ⟨(some 36), .bin .add (.t 35) (.c (.int .i64 1)), none⟩,
                         ⟨(some 9), .mv (.t 36), none⟩])
                       .skip))))
                   (.reg none [⟨(some 37), .bin .add (.t 23) (.c (.int .i64 1)), none⟩,
                     ⟨(some 23), .mv (.t 37), none⟩])))))))
             (.seq
              (.reg none [⟨(some 38), .mv (.t 9), none⟩,
                ⟨(some 39), .load none (.t 7), none⟩,
                ⟨(some 40), .bin .gtr (.t 38) (.t 39), none⟩])
              (.cond (.t 40)
               (.reg none [⟨(some 41), .mv (.t 8), none⟩,
                 ⟨(some 42), .mv (.t 9), none⟩,
                 ⟨none, .store 1 (.t 6) (.t 41), none⟩,
                 ⟨none, .store 1 (.t 7) (.t 42), none⟩])
               .skip))))))))
       (.seq
        (.reg none [⟨(some 43), .load none (.t 6), none⟩,
          ⟨(some 4), .mv (.t 43), none⟩])
        .ret)))))) }
theorem f85P : prepF C Try.f85 = some f85A := by kernel_rfl

/-- (congou/arrays.Array).strong -/
def f86A : AFunc :=
{ nargs := 3, res := [.t 6], body :=
  (.seq
   (.reg none [⟨(some 3), .box (.t 0), none⟩,
     ⟨(some 6), .mv (.c (.b false)), none⟩])
   (.seq
    (.reg none [⟨(some 7), .load (some 2) (.t 3), none⟩,
      ⟨(some 8), .call 74 [(.t 7)], none⟩,
      ⟨(some 9), .mv (.t 8), none⟩,
      ⟨(some 10), .mv (.t 1), some (9, true)⟩,
      ⟨(some 11), .bin .geq (.t 10) (.c (.int .i64 1)), some (9, true)⟩,
      ⟨(some 12), .pick (.t 9) (.t 11) (.c (.b false)), none⟩,
      ⟨(some 13), .mv (.t 12), none⟩,
      ⟨(some 14), .mv (.t 1), some (13, true)⟩,
      ⟨(some 15), .mv (.t 2), some (13, true)⟩,
      ⟨(some 16), .bin .leq (.t 14) (.t 15), some (13, true)⟩,
      ⟨(some 17), .pick (.t 13) (.t 16) (.c (.b false)), none⟩,
      ⟨(some 18), .mv (.t 17), none⟩,
      ⟨(some 19), .mv (.t 1), some (18, true)⟩,
      ⟨(some 20), .load (some 2) (.t 3), some (18, true)⟩,
      ⟨(some 21), .call 75 [(.t 20)], some (18, true)⟩,
      ⟨(some 22), .bin .leq (.t 19) (.t 21), some (18, true)⟩,
      ⟨(some 23), .pick (.t 18) (.t 22) (.c (.b false)), none⟩,
      ⟨(some 6), .mv (.t 23), none⟩])
    .ret)) }
theorem f86P : prepF C Try.f86 = some f86A := by kernel_rfl

/-- (congou/arrays.Array).all -/
def f87A : AFunc :=
{ nargs := 2, res := [.t 4], body :=
  (.seq
   (.reg none [⟨(some 2), .box (.t 0), none⟩,
     ⟨(some 3), .box (.t 1), none⟩,
     ⟨(some 4), .mv (.c .nilf), none⟩])
   (.seq
    (.reg none [⟨(some 5), .mkfn 102 [] [(.t 3), (.t 2)], none⟩,
      ⟨(some 4), .mv (.t 5), none⟩])
    .ret)) }
theorem f87P : prepF C Try.f87 = some f87A := by kernel_rfl

/-- slices.IndexFunc[[]int,int] -/
def f91A : AFunc :=
{ nargs := 2, res := [.t 4], body :=
  (.seq
   (.reg none [⟨(some 4), .mv (.c (.int .i64 0)), none⟩])
   (.seq
    (.seq
     (.reg none [⟨(some 6), .mv (.t 0), none⟩,
       ⟨(some 7), .len (.t 6), none⟩,
       ⟨(some 8), .mv (.c (.int .i64 0)), none⟩])
     (.block 0
      (.loop
       (.seq
        (.reg none [⟨(some 9), .bin .lss (.t 8) (.t 7), none⟩])
        (.seq
         (.cond (.t 9)
          .skip
          (.exit 0))
         (.seq
          (.block 1
           (.seq
            (.reg none [⟨(some 10), .mv (.t 8), none⟩,
              ⟨(some 5), .mv (.t 10), none⟩])
            (.seq
             (.reg none [⟨(some 11), .mv (.t 1), none⟩,
               ⟨(some 12), .mv (.t 0), none⟩,
               ⟨(some 13), .mv (.t 5), none⟩,
               ⟨(some 14), .iaddr 1 (.t 12) (.t 13), none⟩,
               ⟨(some 15), .load none (.t 14), none⟩,
               ⟨(some 16), .callv (.t 11) [(.t 15)], none⟩])
             (.cond (.t 16)
              (.seq
               (.reg none [⟨(some 17), .mv (.t 5), none⟩,
                 ⟨(some 4), .mv (.t 17), none⟩])
               .ret)
              .skip))))
          (.reg none [⟨(some 18), .bin .add (.t 8) (.c (.int .i64 1)), none⟩,
            ⟨(some 8), .mv (.t 18), none⟩])))))))
    (.seq
     (.reg none [⟨(some 4), .mv (.c (.int .i64 (-1))), none⟩])
     .ret))) }
theorem f91P : prepF C Try.f91 = some f91A := by kernel_rfl

/-- congou/arrays.tuples$1 -/
def f96A : AFunc :=
{ nargs := 4, res := [], body :=
  (.seq
   (.reg none [⟨(some 4), .box (.t 0), none⟩])
   (.seq
    (.reg none [⟨(some 5), .alloc [.nilf], none⟩])
    (.seq
     (.reg none [⟨(some 6), .mkfn 97 [] [(.t 1), (.t 4), (.t 2), (.t 3), (.t 5)], none⟩,
       ⟨none, .store 1 (.t 5) (.t 6), none⟩])
     (.reg none [⟨(some 7), .load none (.t 5), none⟩,
       ⟨(some 8), .callv (.t 7) [(.c .nils)], none⟩])))) }
theorem f96P : prepF C Try.f96 = some f96A := by kernel_rfl

/-- congou/arrays.tuples$1$1 -/
def f97A : AFunc :=
{ nargs := 6, res := [.t 7], body :=
  (.seq
   (.reg none [⟨(some 7), .mv (.c (.b false)), none⟩])
   (.seq
    (.seq
     (.reg none [⟨(some 10), .mv (.t 0), none⟩,
       ⟨(some 11), .len (.t 10), none⟩,
       ⟨(some 12), .load none (.t 1), none⟩,
       ⟨(some 13), .bin .eql (.t 11) (.t 12), none⟩])
     (.cond (.t 13)
      (.seq
       (.reg none [⟨(some 14), .load none (.t 2), none⟩,
         ⟨(some 15), .mv (.t 0), none⟩,
         ⟨(some 16), .callv (.t 14) [(.t 15)], none⟩,
         ⟨(some 7), .mv (.t 16), none⟩])
       .ret)
      .skip))
    (.seq
     (.reg none [⟨(some 8), .mv (.c (.int .i64 0)), none⟩])
     (.seq
      (.seq
       (.reg none [⟨(some 17), .load none (.t 3), none⟩,
         ⟨(some 18), .mv (.t 17), none⟩,
         ⟨(some 19), .mv (.t 0), some (18, true)⟩,
         ⟨(some 20), .len (.t 19), some (18, true)⟩,
         ⟨(some 21), .bin .gtr (.t 20) (.c (.int .i64 0)), some (18, true)⟩,
         ⟨(some 22), .pick (.t 18) (.t 21) (.c (.b false)), none⟩])
       (.cond (.t 22)
        (.reg none [⟨(some 23), .mv (.t 0), none⟩,
          ⟨(some 24), .mv (.t 0), none⟩,
          ⟨(some 25), .len (.t 24), none⟩,
          ⟨(some 26), .bin .sub (.t 25) (.c (.int .i64 1)), none⟩,
          ⟨(some 27), .iaddr 1 (.t 23) (.t 26), none⟩,
          ⟨(some 28), .load none (.t 27), none⟩,
          ⟨(some 29), .bin .add (.t 28) (.c (.int .i64 1)), none⟩,
          ⟨(some 8), .mv (.t 29), none⟩])
        .skip))
      (.seq
       (.seq
        (.reg none [⟨(some 30), .mv (.t 8), none⟩,
          ⟨(some 9), .mv (.t 30), none⟩])
        (.block 0
         (.loop
          (.seq
           (.seq
            (.reg none [⟨(some 31), .mv (.t 9), none⟩,
              ⟨(some 32), .load none (.t 4), none⟩,
              ⟨(some 33), .bin .lss (.t 31) (.t 32), none⟩])
            (.cond (.t 33)
             .skip
             (.exit 0)))
           (.seq
            (.block 1
             (.seq
              (.reg (some [(0, 9)]) [⟨(some 36), .load none (.t 5), none⟩,
                ⟨(some 37), .mv (.t 0), none⟩,
                ⟨(some 38), .mv (.t 0), none⟩,
                ⟨(some 39), .len (.t 38), none⟩,
                ⟨(some 40), .mv (.t 0), none⟩,
                ⟨(some 41), .len (.t 40), none⟩,
                ⟨(some 42), .slice 1 (.t 37) none (some (.t 39)) (some (.t 41)), none⟩,
                ⟨(some 43), .mv (.t 9), none⟩,
                ⟨(some 44), .bslice [(.int .i64 0)] 1 1 [(0, (.t 43))], none⟩,
                ⟨(some 45), .append 1 8 (.t 42) (.t 44), none⟩,
                ⟨(some 46), .callv (.t 36) [(.t 45)], none⟩,
                ⟨(some 47), .un .not (.t 46), none⟩])
              (.cond (.t 47)
               (.seq
                (.reg none [⟨(some 7), .mv (.c (.b false)), none⟩])
                .ret)
               .skip)))
            (.reg none [⟨(some 34), .mv (.t 9), none⟩,
              ⟨(some 35), .bin .add (.t 34) (.c (.int .i64 1)), none⟩,
              ⟨(some 9), .mv (.t 35), none⟩]))))))
       (.seq
        (.reg none [⟨(some 7), .mv (.c (.b true)), none⟩])
        .ret)))))) }
theorem f97P : prepF C Try.f97 = some f97A := by kernel_rfl

/-- slices.Min[[]int,int] -/
def f98A : AFunc :=
{ nargs := 1, res := [.t 2], body :=
  (.seq
   (.reg none [⟨(some 2), .mv (.c (.int .i64 0)), none⟩])
   (.seq
    (.seq
     (.reg none [⟨(some 5), .mv (.t 0), none⟩,
       ⟨(some 6), .len (.t 5), none⟩,
       ⟨(some 7), .bin .lss (.t 6) (.c (.int .i64 1)), none⟩])
     (.cond (.t 7)
      (.reg none [⟨(some 8), .bad, none⟩,
        ⟨none, .bad, none⟩])
      .skip))
    (.seq
     (.reg none [⟨(some 9), .mv (.t 0), none⟩,
       ⟨(some 10), .iaddr 1 (.t 9) (.c (.int .i64 0)), none⟩,
       ⟨(some 11), .load none (.t 10), none⟩,
       ⟨(some 3), .mv (.t 11), none⟩])
     (.seq
      (.seq
       (.reg none [⟨(some 4), .mv (.c (.int .i64 1)), none⟩])
       (.block 0
        (.loop
         (.seq
          (.seq
           (.reg none [⟨(some 12), .mv (.t 4), none⟩,
             ⟨(some 13), .mv (.t 0), none⟩,
             ⟨(some 14), .len (.t 13), none⟩,
             ⟨(some 15), .bin .lss (.t 12) (.t 14), none⟩])
           (.cond (.t 15)
            .skip
            (.exit 0)))
          (.seq
           (.block 1
            (.reg none [⟨(some 18), .mv (.t 3), none⟩,
              ⟨(some 19), .mv (.t 0), none⟩,
              ⟨(some 20), .mv (.t 4), none⟩,
              ⟨(some 21), .iaddr 1 (.t 19) (.t 20), none⟩,
              ⟨(some 22), .load none (.t 21), none⟩,
              ⟨(some 23), .mn [(.t 18), (.t 22)], none⟩,
              ⟨(some 3), .mv (.t 23), none⟩]))
           (.reg none [⟨(some 16), .mv (.t 4), none⟩,
             ⟨(some 17), .bin .add (.t 16) (.c (.int .i64 1)), none⟩,
             ⟨(some 4), .mv (.t 17), none⟩]))))))
      (.seq
       (.reg none [⟨(some 24), .mv (.t 3), none⟩,
         ⟨(some 2), .mv (.t 24), none⟩])
       .ret))))) }
theorem f98P : prepF C Try.f98 = some f98A := by kernel_rfl

/-- slices.Max[[]int,int] -/
def f99A : AFunc :=
{ nargs := 1, res := [.t 2], body :=
  (.seq
   (.reg none [⟨(some 2), .mv (.c (.int .i64 0)), none⟩])
   (.seq
    (.seq
     (.reg none [⟨(some 5), .mv (.t 0), none⟩,
       ⟨(some 6), .len (.t 5), none⟩,
       ⟨(some 7), .bin .lss (.t 6) (.c (.int .i64 1)), none⟩])
     (.cond (.t 7)
      (.reg none [⟨(some 8), .bad, none⟩,
        ⟨none, .bad, none⟩])
      .skip))
    (.seq
     (.reg none [⟨(some 9), .mv (.t 0), none⟩,
       ⟨(some 10), .iaddr 1 (.t 9) (.c (.int .i64 0)), none⟩,
       ⟨(some 11), .load none (.t 10), none⟩,
       ⟨(some 3), .mv (.t 11), none⟩])
     (.seq
      (.seq
       (.reg none [⟨(some 4), .mv (.c (.int .i64 1)), none⟩])
       (.block 0
        (.loop
         (.seq
          (.seq
           (.reg none [⟨(some 12), .mv (.t 4), none⟩,
             ⟨(some 13), .mv (.t 0), none⟩,
             ⟨(some 14), .len (.t 13), none⟩,
             ⟨(some 15), .bin .lss (.t 12) (.t 14), none⟩])
           (.cond (.t 15)
            .skip
            (.exit 0)))
          (.seq
           (.block 1
            (.reg none [⟨(some 18), .mv (.t 3), none⟩,
              ⟨(some 19), .mv (.t 0), none⟩,
              ⟨(some 20), .mv (.t 4), none⟩,
              ⟨(some 21), .iaddr 1 (.t 19) (.t 20), none⟩,
              ⟨(some 22), .load none (.t 21), none⟩,
              ⟨(some 23), .mx [(.t 18), (.t 22)], none⟩,
              ⟨(some 3), .mv (.t 23), none⟩]))
           (.reg none [⟨(some 16), .mv (.t 4), none⟩,
             ⟨(some 17), .bin .add (.t 16) (.c (.int .i64 1)), none⟩,
             ⟨(some 4), .mv (.t 17), none⟩]))))))
      (.seq
       (.reg none [⟨(some 24), .mv (.t 3), none⟩,
         ⟨(some 2), .mv (.t 24), none⟩])
       .ret))))) }
theorem f99P : prepF C Try.f99 = some f99A := by kernel_rfl

/-- congou/arrays.comes -/
def f101A : AFunc :=
{ nargs := 3, res := [.t 6], body :=
  (.seq
   (.reg none [⟨(some 6), .mv (.c (.b false)), none⟩])
   (.seq
    (.seq
     (.reg none [⟨(some 9), .mv (.t 1), none⟩,
       ⟨(some 10), .len (.t 9), none⟩,
       ⟨(some 11), .mv (.c (.int .i64 0)), none⟩])
     (.block 0
      (.loop
       (.seq
        (.reg none [⟨(some 12), .bin .lss (.t 11) (.t 10), none⟩])
        (.seq
         (.cond (.t 12)
          .skip
          (.exit 0))
         (.seq
          (.block 1
           (.seq
            (.reg none [⟨(some 13), .mv (.t 11), none⟩,
              ⟨(some 14), .iaddr 1 (.t 9) (.t 11), none⟩,
              ⟨(some 15), .load none (.t 14), none⟩,
              ⟨(some 7), .mv (.t 13), none⟩,
              ⟨(some 8), .mv (.t 15), none⟩])
            (.seq
             (.reg (some []) [⟨(some 16), .mv (.t 0), none⟩,
               ⟨(some 17), .mv (.t 8), none⟩,
               ⟨(some 18), .iaddr 1 (.t 16) (.t 17), none⟩,
               ⟨(some 19), .load none (.t 18), none⟩,
               ⟨(some 20), .mv (.t 2), none⟩,
               ⟨(some 21), .mv (.t 7), none⟩,
               ⟨(some 22), .iaddr 1 (.t 20) (.t 21), none⟩,
               ⟨(some 23), .load none (.t 22), none⟩,
               ⟨(some 24), .bin .neq (.t 19) (.t 23), none⟩])
             (.cond (.t 24)
              (.seq
               (.reg none [⟨(some 6), .mv (.c (.b false)), none⟩])
               .ret)
              .skip))))
          (.reg none [⟨(some 25), .bin .add (.t 11) (.c (.int .i64 1)), none⟩,
            ⟨(some 11), .mv (.t 25), none⟩])))))))
    (.seq
     (.reg none [⟨(some 6), .mv (.c (.b true)), none⟩])
     .ret))) }
theorem f101P : prepF C Try.f101 = some f101A := by kernel_rfl

/-- (congou/arrays.Array).all$1 -/
def f102A : AFunc :=
{ nargs := 3, res := [], body :=
  (.seq
   (.reg none [⟨(some 3), .box (.t 0), none⟩])
   (.seq
    (.reg (some []) [⟨(some 6), .load none (.t 1), none⟩,
      ⟨(some 7), .load (some 2) (.t 2), none⟩,
      ⟨(some 8), .call 75 [(.t 7)], none⟩,
      ⟨(some 9), .call 72 [(.t 6), (.t 8), (.c (.b true))], none⟩])
    (.block 0
     (.rangeF 27 (.t 9) [10]
      (.reg none [⟨(some 4), .alloc [.nils], none⟩,
        ⟨none, .store 1 (.t 4) (.t 10), none⟩])
      (.block 1
       (.seq
        (.reg none [⟨(some 11), .load none (.t 1), none⟩,
          ⟨(some 12), .faddr 0 (.t 2), none⟩,
          ⟨(some 13), .load none (.t 12), none⟩,
          ⟨(some 14), .call 72 [(.t 11), (.t 13), (.c (.b false))], none⟩])
        (.block 2
         (.rangeF 27 (.t 14) [15]
          (.reg none [⟨(some 5), .mv (.t 15), none⟩])
          (.block 3
           (.seq
            (.reg (some []) [⟨(some 16), .load none (.t 3), none⟩,
              ⟨(some 17), .load none (.t 4), none⟩,
              ⟨(some 18), .mv (.t 5), none⟩,
              ⟨(some 19), .bslice [.nils] 2 1 [(0, (.t 17)), (1, (.t 18))], none⟩,
              ⟨(some 20), .call 103 [(.t 19)], none⟩,
              ⟨(some 21), .load (some 2) (.t 2), none⟩,
              ⟨(some 22), .load none (.t 4), none⟩,
              ⟨(some 23), .mv (.t 5), none⟩,
              ⟨(some 24), .call 104 [(.t 21), (.t 22), (.t 23)], none⟩,
              ⟨(some 25), .callv (.t 16) [(.t 20), (.t 24)], none⟩,
              ⟨(some 26), .un .not (.t 25), none⟩])
            (.cond (.t 26)
             .ret
             .skip))))))))))) }
theorem f102P : prepF C Try.f102 = some f102A := by kernel_rfl

/-- slices.Concat[[]int,int] -/
def f103A : AFunc :=
{ nargs := 1, res := [.t 2], body :=
  (.seq
   (.reg none [⟨(some 2), .mv (.c .nils), none⟩])
   (.seq
    (.reg none [⟨(some 3), .mv (.c (.int .i64 0)), none⟩])
    (.seq
     (.seq
      (.reg none [⟨(some 9), .mv (.t 0), none⟩,
        ⟨(some 10), .len (.t 9), none⟩,
        ⟨(some 11), .mv (.c (.int .i64 0)), none⟩])
      (.block 0
       (.loop
        (.seq
         (.reg none [⟨(some 12), .bin .lss (.t 11) (.t 10), none⟩])
         (.seq
          (.cond (.t 12)
           .skip
           (.exit 0))
          (.seq
           (.block 1
            (.seq
             (.reg none [⟨(some 13), .iaddr 1 (.t 9) (.t 11), none⟩,
               ⟨(some 14), .load none (.t 13), none⟩,
               ⟨(some 5), .mv (.t 14), none⟩])
             (.seq
              (.reg none [⟨(some 15), .mv (.t 3), none⟩,
                ⟨(some 16), .mv (.t 5), none⟩,
                ⟨(some 17), .len (.t 16), none⟩,
                ⟨(some 18), .bin .add (.t 15) (.t 17), none⟩,
                ⟨(some 3), .mv (.t 18), none⟩])
              (.seq
               (.reg none [⟨(some 19), .mv (.t 3), none⟩,
                 ⟨(some 20), .bin .lss (.t 19) (.c (.int .i64 0)), none⟩])
               (.cond (.t 20)
                (.reg none [⟨(some 21), .bad, none⟩,
                  ⟨none, .bad, none⟩])
                .skip)))))
           (.reg none [⟨(some 22), .bin .add (.t 11) (.c (.int .i64 1)), none⟩,
             ⟨(some 11), .mv (.t 22), none⟩])))))))
     (.seq
      (.reg none [⟨(some 23), .mv (.t 3), none⟩,
        ⟨(some 24), .call 106 [(.c .nils), (.t 23)], none⟩,
        ⟨(some 6), .mv (.t 24), none⟩])
      (.seq
       (.seq
        (.reg none [⟨(some 25), .mv (.t 0), none⟩,
          ⟨(some 26), .len (.t 25), none⟩,
          ⟨(some 27), .mv (.c (.int .i64 0)), none⟩])
        (.block 2
         (.loop
          (.seq
           (.reg none [⟨(some 28), .bin .lss (.t 27) (.t 26), none⟩])
           (.seq
            (.cond (.t 28)
             .skip
             (.exit 2))
            (.seq
             (.block 3
              (.seq
               (.reg none [⟨(some 29), .iaddr 1 (.t 25) (.t 27), none⟩,
                 ⟨(some 30), .load none (.t 29), none⟩,
                 ⟨(some 8), .mv (.t 30), none⟩])
               (.reg none [⟨(some 31), .mv (.t 6), none⟩,
                 ⟨(some 32), .mv (.t 8), none⟩,
                 ⟨(some 33), .append 1 8 (.t 31) (.t 32), none⟩,
                 ⟨(some 6), .mv (.t 33), none⟩])))
             (.reg none [⟨(some 34), .bin .add (.t 27) (.c (.int .i64 1)), none⟩,
               ⟨(some 27), .mv (.t 34), none⟩])))))))
       (.seq
        (.reg none [⟨(some 35), .mv (.t 6), none⟩,
          ⟨(some 2), .mv (.t 35), none⟩])
        .ret)))))) }
theorem f103P : prepF C Try.f103 = some f103A := by kernel_rfl

/-- (congou/arrays.Array).often -/
def f104A : AFunc :=
{ nargs := 3, res := [.t 6], body :=
  (.seq
   (.reg none [⟨(some 3), .box (.t 0), none⟩,
     ⟨(some 6), .mv (.c (.int .i64 0)), none⟩])
   (.seq
    (.reg none [⟨(some 7), .mv (.c (.int .i64 0)), none⟩])
    (.seq
     (.seq
      (.reg none [⟨(some 10), .faddr 1 (.t 3), none⟩,
        ⟨(some 11), .load none (.t 10), none⟩,
        ⟨(some 12), .len (.t 11), none⟩,
        ⟨(some 13), .mv (.c (.int .i64 0)), none⟩])
      (.block 0
       (.loop
        (.seq
         (.reg none [⟨(some 14), .bin .lss (.t 13) (.t 12), none⟩])
         (.seq
          (.cond (.t 14)
           .skip
           (.exit 0))
          (.seq
           (.block 1
            (.seq
             (.reg none [⟨(some 15), .iaddr 1 (.t 11) (.t 13), none⟩,
               ⟨(some 16), .load none (.t 15), none⟩,
               ⟨(some 9), .mv (.t 16), none⟩])
             (.seq
              (.reg none [⟨(some 17), .mv (.t 9), none⟩,
                ⟨(some 18), .mv (.t 1), none⟩,
                ⟨(some 19), .mv (.t 2), none⟩,
                ⟨(some 20), .call 101 [(.t 17), (.t 18), (.t 19)], none⟩])
              (.cond (.t 20)
               (.reg none [⟨(some 21), .mv (.t 7), none⟩,
                 ⟨(some 22), .bin .add (.t 21) (.c (.int .i64 1)), none⟩,
                 ⟨(some 7), .mv (.t 22), none⟩])
               .skip))))
           (.reg none [⟨(some 23), .bin .add (.t 13) (.c (.int .i64 1)), none⟩,
             ⟨(some 13), .mv (.t 23), none⟩])))))))
     (.seq
      (.reg none [⟨(some 24), .mv (.t 7), none⟩,
        ⟨(some 6), .mv (.t 24), none⟩])
      .ret)))) }
theorem f104P : prepF C Try.f104 = some f104A := by kernel_rfl

/-- slices.Grow[[]int,int] -/
def f106A : AFunc :=
{ nargs := 2, res := [.t 4], body :=
  (.seq
   (.reg none [⟨(some 4), .mv (.c .nils), none⟩])
   (.seq
    (.seq
     (.reg none [⟨(some 5), .mv (.t 1), none⟩,
       ⟨(some 6), .bin .lss (.t 5) (.c (.int .i64 0)), none⟩])
     (.cond (.t 6)
      (.reg none [⟨(some 7), .bad, none⟩,
        ⟨none, .bad, none⟩])
      .skip))
    (.seq
     (.seq
      (.reg none [⟨(some 8), .mv (.t 1), none⟩,
        ⟨(some 9), .mv (.t 0), none⟩,
        ⟨(some 10), .cap (.t 9), none⟩,
        ⟨(some 11), .mv (.t 0), none⟩,
        ⟨(some 12), .len (.t 11), none⟩,
        ⟨(some 13), .bin .sub (.t 10) (.t 12), none⟩,
        ⟨(some 14), .bin .sub (.t 8) (.t 13), none⟩,
        ⟨(some 1), .mv (.t 14), none⟩])
      (.seq
       (.reg none [⟨(some 15), .mv (.t 1), none⟩,
         ⟨(some 16), .bin .gtr (.t 15) (.c (.int .i64 0)), none⟩])
       (.cond (.t 16)
        (.reg none [⟨(some 17), .mv (.t 0), none⟩,
          ⟨(some 18), .mv (.t 0), none⟩,
          ⟨(some 19), .cap (.t 18), none⟩,
          ⟨(some 20), .slice 1 (.t 17) none (some (.t 19)) none, none⟩,
          ⟨(some 21), .mv (.t 1), none⟩,
          ⟨(some 22), .appendz 1 8 [(.int .i64 0)] (.t 20) (.t 21), none⟩,
          ⟨(some 23), .mv (.t 0), none⟩,
          ⟨(some 24), .len (.t 23), none⟩,
          ⟨(some 25), .slice 1 (.t 22) none (some (.t 24)) none, none⟩,
          ⟨(some 0), .mv (.t 25), none⟩])
        .skip)))
     (.seq
      (.reg none [⟨(some 26), .mv (.t 0), none⟩,
        ⟨(some 4), .mv (.t 26), none⟩])
      .ret)))) }
theorem f106P : prepF C Try.f106 = some f106A := by kernel_rfl

end Go.Proofs.Ytalaadcbpjnglaa
