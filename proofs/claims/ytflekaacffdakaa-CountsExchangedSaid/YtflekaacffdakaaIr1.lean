/- The abstract forms of the functions of this seat, each checked against the translation. No condition. -/
import Derived.Test.YtflekaacffdakaaIr0
import Derived.Test.YtflekaacffdakaaProg
namespace Go.Proofs.Ytflekaacffdakaa
open Go Go.AM Go.Proofs

/-- congou/counts.Hidden -/
def f46A : AFunc :=
{ nargs := 2, res := [.t 4, .t 5], body :=
  (.seq
   (.reg none [⟨(some 4), .mv (.c (.b false)), none⟩,
     ⟨(some 5), .mv (.c (.int .i64 0)), none⟩])
   (.seq
    (.seq
     (.reg none [⟨(some 13), .mv (.t 0), none⟩,
       ⟨(some 14), .call 72 [(.t 13)], none⟩,
       ⟨(some 15), .un .not (.t 14), none⟩,
       ⟨(some 16), .mv (.t 15), none⟩,
       ⟨(some 17), .mv (.t 1), some (16, false)⟩,
       ⟨(some 18), .call 72 [(.t 17)], some (16, false)⟩,
       ⟨(some 19), .un .not (.t 18), some (16, false)⟩,
       ⟨(some 20), .pick (.t 16) (.c (.b true)) (.t 19), none⟩])
     (.cond (.t 20)
      (.seq
       (.reg none [⟨(some 4), .mv (.c (.b false)), none⟩,
         ⟨(some 5), .mv (.c (.int .i64 2)), none⟩])
       .ret)
      .skip))
    (.seq
     (.reg none [⟨(some 22), .mv (.t 0), none⟩,
       ⟨(some 23), .mv (.t 1), none⟩,
       ⟨(some 24), .call 45 [(.t 22), (.t 23)], none⟩,
       ⟨(some 21), .mv (.t 24), none⟩,
       ⟨(some 25), .extr (.t 21) 0, none⟩,
       ⟨(some 26), .extr (.t 21) 1, none⟩,
       ⟨(some 6), .mv (.t 25), none⟩,
       ⟨(some 7), .mv (.t 26), none⟩])
     (.seq
      (.seq
       (.reg none [⟨(some 27), .mv (.t 7), none⟩,
         ⟨(some 28), .bin .neq (.t 27) (.c (.int .i64 0)), none⟩])
       (.cond (.t 28)
        (.seq
         (.reg none [⟨(some 4), .mv (.c (.b false)), none⟩,
           ⟨(some 5), .mv (.c (.int .i64 5)), none⟩])
         .ret)
        .skip))
      (.seq
       (.reg none [⟨(some 8), .alloc [(.int .i64 0), (.int .i64 0), (.int .i64 0)], none⟩])
       (.seq
        (.seq
         (.reg none [⟨(some 29), .mv (.t 0), none⟩,
           ⟨(some 30), .mv (.t 1), none⟩,
           ⟨(some 31), .mv (.t 6), none⟩,
           ⟨(some 32), .bslice [.nils] 3 1 [(0, (.t 29)), (1, (.t 30)), (2, (.t 31))], none⟩,
           ⟨(some 33), .len (.t 32), none⟩,
           ⟨(some 34), .mv (.c (.int .i64 0)), none⟩])
         (.block 0
          (.loop
           (.seq
            (.reg none [⟨(some 35), .bin .lss (.t 34) (.t 33), none⟩])
            (.seq
             (.cond (.t 35)
              .skip
              (.exit 0))
             (.seq
              (.block 1
               (.seq
                (.reg none [⟨(some 36), .mv (.t 34), none⟩,
                  ⟨(some 37), .iaddr 1 (.t 32) (.t 34), none⟩,
                  ⟨(some 38), .load none (.t 37), none⟩,
                  ⟨(some 9), .mv (.t 36), none⟩,
                  ⟨(some 10), .mv (.t 38), none⟩])
                (.seq
                 (.reg none [⟨(some 40), .mv (.t 10), none⟩,
                   ⟨(some 41), .call 28 [(.t 40)], none⟩,
                   ⟨(some 39), .mv (.t 41), none⟩,
                   ⟨(some 42), .extr (.t 39) 0, none⟩,
                   ⟨(some 43), .extr (.t 39) 1, none⟩,
                   ⟨(some 11), .alloc [(.int .i64 0), (.int .i64 0)], none⟩,
                   ⟨none, .store 2 (.t 11) (.t 42), none⟩,
                   ⟨(some 12), .mv (.t 43), none⟩])
                 (.seq
                  (.seq
                   (.reg none [⟨(some 44), .mv (.t 12), none⟩,
                     ⟨(some 45), .bin .neq (.t 44) (.c (.int .i64 0)), none⟩])
                   (.cond (.t 45)
                    (.seq
                     (.reg none [⟨(some 46), .mv (.t 12), none⟩,
                       ⟨(some 4), .mv (.c (.b false)), none⟩,
                       ⟨(some 5), .mv (.t 46), none⟩])
                     .ret)
                    .skip))
                  (.reg none [⟨(some 47), .mv (.t 9), none⟩,
                    ⟨(some 48), .faddr 0 (.t 11), none⟩,
                    ⟨(some 49), .load none (.t 48), none⟩,
                    ⟨(some 50), .faddr 1 (.t 11), none⟩,
                    ⟨(some 51), .load none (.t 50), none⟩,
                    ⟨(some 52), .call 85 [(.t 49), (.t 51)], none⟩,
                    ⟨(some 53), .iaddrA 3 1 (.t 8) (.t 47), none⟩,
                    ⟨none, .store 1 (.t 53) (.t 52), none⟩])))))
              (.reg none [⟨(some 54), .bin .add (.t 34) (.c (.int .i64 1)), none⟩,
                ⟨(some 34), .mv (.t 54), none⟩])))))))
        (.seq
         (.reg none [⟨(some 55), .load (some 3) (.t 8), none⟩,
           ⟨(some 56), .build [(.int .i64 0), (.int .i64 0), (.int .i64 0)] [(0, 1, (.c (.int .i64 1))), (1, 1, (.c (.int .i64 1))), (2, 1, (.c (.int .i64 (-1))))], none⟩,
           ⟨(some 57), .aeq false 3 (.t 55) (.t 56), none⟩,
           ⟨(some 58), .mv (.t 57), none⟩,
           ⟨(some 59), .load (some 3) (.t 8), some (58, false)⟩,
           ⟨(some 60), .build [(.int .i64 0), (.int .i64 0), (.int .i64 0)] [(0, 1, (.c (.int .i64 (-1)))), (1, 1, (.c (.int .i64 (-1)))), (2, 1, (.c (.int .i64 1)))], some (58, false)⟩,
           ⟨(some 61), .aeq false 3 (.t 59) (.t 60), some (58, false)⟩,
           ⟨(some 62), .pick (.t 58) (.c (.b true)) (.t 61), none⟩,
           ⟨(some 4), .mv (.t 62), none⟩,
           ⟨(some 5), .mv (.c (.int .i64 0)), none⟩])
         .ret))))))) }
theorem f46P : prepF C Try.f46 = some f46A := by kernel_rfl

/-- congou/congouref06.Plus -/
def f47A : AFunc :=
{ nargs := 2, res := [.t 4, .t 5], body :=
  (.seq
   (.reg none [⟨(some 4), .mv (.c .nils), none⟩,
     ⟨(some 5), .mv (.c (.int .i64 0)), none⟩])
   (.seq
    (.reg none [⟨(some 6), .mv (.c .nils), none⟩])
    (.seq
     (.seq
      (.reg none [⟨(some 12), .mv (.t 0), none⟩,
        ⟨(some 13), .len (.t 12), none⟩,
        ⟨(some 14), .mv (.c (.int .i64 0)), none⟩])
      (.block 0
       (.loop
        (.seq
         (.reg none [⟨(some 15), .bin .lss (.t 14) (.t 13), none⟩])
         (.seq
          (.cond (.t 15)
           .skip
           (.exit 0))
          (.seq
           (.block 1
            (.seq
             (.reg none [⟨(some 16), .mv (.t 14), none⟩,
               ⟨(some 17), .iaddr 1 (.t 12) (.t 14), none⟩,
               ⟨(some 18), .load none (.t 17), none⟩,
               ⟨(some 7), .mv (.t 16), none⟩,
               ⟨(some 8), .mv (.t 18), none⟩])
             (.seq
              (.reg none [⟨(some 9), .mv (.c .nils), none⟩])
              (.seq
               (.seq
                (.reg none [⟨(some 19), .mv (.t 8), none⟩,
                  ⟨(some 20), .len (.t 19), none⟩,
                  ⟨(some 21), .mv (.c (.int .i64 0)), none⟩])
                (.block 2
                 (.loop
                  (.seq
                   (.reg none [⟨(some 22), .bin .lss (.t 21) (.t 20), none⟩])
                   (.seq
                    (.cond (.t 22)
                     .skip
                     (.exit 2))
                    (.seq
                     (.block 3
                      (.seq
                       (.reg none [⟨(some 23), .mv (.t 21), none⟩,
                         ⟨(some 24), .iaddr 1 (.t 19) (.t 21), none⟩,
                         ⟨(some 25), .load none (.t 24), none⟩,
                         ⟨(some 10), .mv (.t 23), none⟩,
                         ⟨(some 11), .mv (.t 25), none⟩])
                       (.reg none [⟨(some 26), .mv (.t 9), none⟩,
                         ⟨(some 27), .mv (.t 11), none⟩,
                         ⟨(some 28), .mv (.t 1), none⟩,
                         ⟨(some 29), .mv (.t 7), none⟩,
                         ⟨(some 30), .iaddr 1 (.t 28) (.t 29), none⟩,
                         ⟨(some 31), .load none (.t 30), none⟩,
                         ⟨(some 32), .mv (.t 10), none⟩,
                         ⟨(some 33), .iaddr 1 (.t 31) (.t 32), none⟩,
                         ⟨(some 34), .load none (.t 33), none⟩,
                         ⟨(some 35), .bin .add (.t 27) (.t 34), none⟩,
                         ⟨(some 36), .bslice [(.int .i64 0)] 1 1 [(0, (.t 35))], none⟩,
                         ⟨(some 37), .append 1 8 (.t 26) (.t 36), none⟩,
                         ⟨(some 9), .mv (.t 37), none⟩])))
                     (.reg none [⟨(some 38), .bin .add (.t 21) (.c (.int .i64 1)), none⟩,
                       ⟨(some 21), .mv (.t 38), none⟩])))))))
               (.reg none [⟨(some 39), .mv (.t 6), none⟩,
                 ⟨(some 40), .mv (.t 9), none⟩,
                 ⟨(some 41), .bslice [.nils] 1 1 [(0, (.t 40))], none⟩,
                 ⟨(some 42), .append 1 24 (.t 39) (.t 41), none⟩,
                 ⟨(some 6), .mv (.t 42), none⟩])))))
           (.reg none [⟨(some 43), .bin .add (.t 14) (.c (.int .i64 1)), none⟩,
             ⟨(some 14), .mv (.t 43), none⟩])))))))
     (.seq
      (.seq
       (.reg none [⟨(some 44), .mv (.t 6), none⟩,
         ⟨(some 45), .call 22 [(.t 44)], none⟩,
         ⟨(some 46), .un .not (.t 45), none⟩])
       (.cond (.t 46)
        (.seq
         (.reg none [⟨(some 4), .mv (.c .nils), none⟩,
           ⟨(some 5), .mv (.c (.int .i64 4)), none⟩])
         .ret)
        .skip))
      (.seq
       (.reg none [⟨(some 47), .mv (.t 6), none⟩,
         ⟨(some 4), .mv (.t 47), none⟩,
         ⟨(some 5), .mv (.c (.int .i64 0)), none⟩])
       .ret))))) }
theorem f47P : prepF C Try.f47 = some f47A := by kernel_rfl

/-- congou/congouref06.Hidden -/
def f48A : AFunc :=
{ nargs := 2, res := [.t 4, .t 5], body :=
  (.seq
   (.reg none [⟨(some 4), .mv (.c (.b false)), none⟩,
     ⟨(some 5), .mv (.c (.int .i64 0)), none⟩])
   (.seq
    (.reg none [⟨(some 16), .mv (.t 0), none⟩,
      ⟨(some 17), .mv (.t 1), none⟩,
      ⟨(some 18), .call 47 [(.t 16), (.t 17)], none⟩,
      ⟨(some 15), .mv (.t 18), none⟩,
      ⟨(some 19), .extr (.t 15) 0, none⟩,
      ⟨(some 20), .extr (.t 15) 1, none⟩,
      ⟨(some 6), .mv (.t 19), none⟩,
      ⟨(some 7), .mv (.t 20), none⟩])
    (.seq
     (.seq
      (.reg none [⟨(some 21), .mv (.t 7), none⟩,
        ⟨(some 22), .bin .neq (.t 21) (.c (.int .i64 0)), none⟩])
      (.cond (.t 22)
       (.seq
        (.reg none [⟨(some 4), .mv (.c (.b false)), none⟩,
          ⟨(some 5), .mv (.c (.int .i64 5)), none⟩])
        .ret)
       .skip))
     (.seq
      (.reg none [⟨(some 24), .mv (.t 0), none⟩,
        ⟨(some 25), .call 31 [(.t 24)], none⟩,
        ⟨(some 23), .mv (.t 25), none⟩,
        ⟨(some 26), .extr (.t 23) 0, none⟩,
        ⟨(some 27), .extr (.t 23) 1, none⟩,
        ⟨(some 8), .alloc [(.int .i64 0), (.int .i64 0)], none⟩,
        ⟨none, .store 2 (.t 8) (.t 26), none⟩,
        ⟨(some 9), .mv (.t 27), none⟩])
      (.seq
       (.reg none [⟨(some 29), .mv (.t 1), none⟩,
         ⟨(some 30), .call 31 [(.t 29)], none⟩,
         ⟨(some 28), .mv (.t 30), none⟩,
         ⟨(some 31), .extr (.t 28) 0, none⟩,
         ⟨(some 32), .extr (.t 28) 1, none⟩,
         ⟨(some 10), .alloc [(.int .i64 0), (.int .i64 0)], none⟩,
         ⟨none, .store 2 (.t 10) (.t 31), none⟩,
         ⟨(some 11), .mv (.t 32), none⟩])
       (.seq
        (.reg none [⟨(some 34), .mv (.t 6), none⟩,
          ⟨(some 35), .call 31 [(.t 34)], none⟩,
          ⟨(some 33), .mv (.t 35), none⟩,
          ⟨(some 36), .extr (.t 33) 0, none⟩,
          ⟨(some 37), .extr (.t 33) 1, none⟩,
          ⟨(some 12), .alloc [(.int .i64 0), (.int .i64 0)], none⟩,
          ⟨none, .store 2 (.t 12) (.t 36), none⟩,
          ⟨(some 13), .mv (.t 37), none⟩])
        (.seq
         (.seq
          (.reg none [⟨(some 38), .mv (.t 9), none⟩,
            ⟨(some 39), .bin .neq (.t 38) (.c (.int .i64 0)), none⟩,
            ⟨(some 40), .mv (.t 39), none⟩,
            ⟨(some 41), .mv (.t 11), some (40, false)⟩,
            ⟨(some 42), .bin .neq (.t 41) (.c (.int .i64 0)), some (40, false)⟩,
            ⟨(some 43), .pick (.t 40) (.c (.b true)) (.t 42), none⟩,
            ⟨(some 44), .mv (.t 43), none⟩,
            ⟨(some 45), .mv (.t 13), some (44, false)⟩,
            ⟨(some 46), .bin .neq (.t 45) (.c (.int .i64 0)), some (44, false)⟩,
            ⟨(some 47), .pick (.t 44) (.c (.b true)) (.t 46), none⟩])
          (.cond (.t 47)
           (.seq
            (.reg none [⟨(some 4), .mv (.c (.b false)), none⟩,
              ⟨(some 5), .mv (.c (.int .i64 5)), none⟩])
            .ret)
           .skip))
         (.seq
          (.reg none [⟨(some 48), .build [(.int .i64 0), (.int .i64 0)] [(0, 1, (.c (.int .i64 1))), (1, 1, (.c (.int .i64 1)))], none⟩,
            ⟨(some 14), .alloc [(.int .i64 0), (.int .i64 0)], none⟩,
            ⟨none, .store 2 (.t 14) (.t 48), none⟩])
          (.seq
           (.reg none [⟨(some 49), .load (some 2) (.t 14), none⟩,
             ⟨(some 50), .load (some 2) (.t 8), none⟩,
             ⟨(some 51), .call 54 [(.t 49), (.t 50)], none⟩,
             ⟨(some 52), .mv (.t 51), none⟩,
             ⟨(some 53), .load (some 2) (.t 14), some (52, true)⟩,
             ⟨(some 54), .load (some 2) (.t 10), some (52, true)⟩,
             ⟨(some 55), .call 54 [(.t 53), (.t 54)], some (52, true)⟩,
             ⟨(some 56), .pick (.t 52) (.t 55) (.c (.b false)), none⟩,
             ⟨(some 57), .mv (.t 56), none⟩,
             ⟨(some 58), .load (some 2) (.t 12), some (57, true)⟩,
             ⟨(some 59), .load (some 2) (.t 14), some (57, true)⟩,
             ⟨(some 60), .call 54 [(.t 58), (.t 59)], some (57, true)⟩,
             ⟨(some 61), .pick (.t 57) (.t 60) (.c (.b false)), none⟩,
             ⟨(some 62), .mv (.t 61), none⟩,
             ⟨(some 63), .load (some 2) (.t 8), some (62, false)⟩,
             ⟨(some 64), .load (some 2) (.t 14), some (62, false)⟩,
             ⟨(some 65), .call 54 [(.t 63), (.t 64)], some (62, false)⟩,
             ⟨(some 66), .mv (.t 65), some (62, false)⟩,
             ⟨(some 67), .load (some 2) (.t 10), some (66, true)⟩,
             ⟨(some 68), .load (some 2) (.t 14), some (66, true)⟩,
             ⟨(some 69), .call 54 [(.t 67), (.t 68)], some (66, true)⟩,
             ⟨(some 70), .pick (.t 66) (.t 69) (.c (.b false)), some (62, false)⟩,
             ⟨(some 71), .mv (.t 70), some (62, false)⟩,
             ⟨(some 72), .load (some 2) (.t 14), some (71, true)⟩,
             ⟨(some 73), .load (some 2) (.t 12), some (71, true)⟩,
             ⟨(some 74), .call 54 [(.t 72), (.t 73)], some (71, true)⟩,
             ⟨(some 75), .pick (.t 71) (.t 74) (.c (.b false)), some (62, false)⟩,
             ⟨(some 76), .pick (.t 62) (.c (.b true)) (.t 75), none⟩,
             ⟨(some 4), .mv (.t 76), none⟩,
             ⟨(some 5), .mv (.c (.int .i64 0)), none⟩])
           .ret))))))))) }
theorem f48P : prepF C Try.f48 = some f48A := by kernel_rfl

/-- congou/counts.Chance -/
def f49A : AFunc :=
{ nargs := 1, res := [.c 2 (some 2), .t 3], body :=
  (.seq
   (.reg none [⟨(some 2), .alloc [(.int .i64 0), (.int .i64 0)], none⟩,
     ⟨(some 3), .mv (.c (.int .i64 0)), none⟩])
   (.seq
    (.seq
     (.reg none [⟨(some 4), .mv (.t 0), none⟩,
       ⟨(some 5), .call 70 [(.t 4)], none⟩,
       ⟨(some 6), .un .not (.t 5), none⟩])
     (.cond (.t 6)
      (.seq
       (.reg none [⟨(some 7), .build [(.int .i64 0), (.int .i64 0)] [], none⟩,
         ⟨none, .store 2 (.t 2) (.t 7), none⟩,
         ⟨(some 3), .mv (.c (.int .i64 2)), none⟩])
       .ret)
      .skip))
    (.seq
     (.reg none [⟨(some 8), .mv (.t 0), none⟩,
       ⟨(some 9), .call 86 [(.t 8)], none⟩,
       ⟨(some 10), .mv (.t 0), none⟩,
       ⟨(some 11), .call 82 [(.t 10)], none⟩,
       ⟨(some 12), .field 1 none (.t 11), none⟩,
       ⟨(some 13), .call 87 [(.t 12)], none⟩,
       ⟨(some 14), .call 73 [(.t 9), (.t 13)], none⟩,
       ⟨none, .store 2 (.t 2) (.t 14), none⟩,
       ⟨(some 3), .mv (.c (.int .i64 0)), none⟩])
     .ret))) }
theorem f49P : prepF C Try.f49 = some f49A := by kernel_rfl

/-- congou/counts.Tail -/
def f50A : AFunc :=
{ nargs := 1, res := [.c 2 (some 2), .t 3], body :=
  (.seq
   (.reg none [⟨(some 2), .alloc [(.int .i64 0), (.int .i64 0)], none⟩,
     ⟨(some 3), .mv (.c (.int .i64 0)), none⟩])
   (.seq
    (.seq
     (.reg none [⟨(some 8), .mv (.t 0), none⟩,
       ⟨(some 9), .call 70 [(.t 8)], none⟩,
       ⟨(some 10), .un .not (.t 9), none⟩])
     (.cond (.t 10)
      (.seq
       (.reg none [⟨(some 11), .build [(.int .i64 0), (.int .i64 0)] [], none⟩,
         ⟨none, .store 2 (.t 2) (.t 11), none⟩,
         ⟨(some 3), .mv (.c (.int .i64 2)), none⟩])
       .ret)
      .skip))
    (.seq
     (.reg none [⟨(some 12), .mv (.t 0), none⟩,
       ⟨(some 13), .call 86 [(.t 12)], none⟩,
       ⟨(some 4), .alloc [(.int .i64 0)], none⟩,
       ⟨none, .store 1 (.t 4) (.t 13), none⟩])
     (.seq
      (.reg none [⟨(some 5), .alloc [(.int .i64 0)], none⟩,
        ⟨none, .store 1 (.t 5) (.c (.int .i64 0)), none⟩])
      (.seq
       (.seq
        (.reg none [⟨(some 14), .mv (.t 0), none⟩,
          ⟨(some 15), .call 82 [(.t 14)], none⟩,
          ⟨(some 16), .mkfn 80 [(.t 15)] [], none⟩])
        (.block 0
         (.rangeF 32 (.t 16) [17]
          (.reg none [⟨(some 6), .mv (.t 17), none⟩])
          (.block 1
           (.seq
            (.reg none [⟨(some 18), .mv (.t 6), none⟩,
              ⟨(some 19), .call 86 [(.t 18)], none⟩,
              ⟨(some 7), .mv (.t 19), none⟩])
            (.seq
             (.reg none [⟨(some 20), .mv (.t 7), none⟩,
               ⟨(some 21), .load none (.t 4), none⟩,
               ⟨(some 22), .bin .leq (.t 20) (.t 21), none⟩])
             (.cond (.t 22)
              (.reg none [⟨(some 23), .load none (.t 5), none⟩,
                ⟨(some 24), .mv (.t 7), none⟩,
                ⟨(some 25), .bin .add (.t 23) (.t 24), none⟩,
                ⟨none, .store 1 (.t 5) (.t 25), none⟩])
              .skip)))))))
       (.seq
        (.reg (some []) [⟨(some 26), .load none (.t 5), none⟩,
          ⟨(some 27), .mv (.t 0), none⟩,
          ⟨(some 28), .call 82 [(.t 27)], none⟩,
          ⟨(some 29), .field 1 none (.t 28), none⟩,
          ⟨(some 30), .call 87 [(.t 29)], none⟩,
          ⟨(some 31), .call 73 [(.t 26), (.t 30)], none⟩,
          ⟨none, .store 2 (.t 2) (.t 31), none⟩,
          ⟨(some 3), .mv (.c (.int .i64 0)), none⟩])
        .ret)))))) }
theorem f50P : prepF C Try.f50 = some f50A := by kernel_rfl

/-- congou/congouref06.Chance -/
def f51A : AFunc :=
{ nargs := 1, res := [.c 2 (some 2)], body :=
  (.seq
   (.reg none [⟨(some 2), .alloc [(.int .i64 0), (.int .i64 0)], none⟩])
   (.seq
    (.reg none [⟨(some 6), .mv (.t 0), none⟩,
      ⟨(some 7), .call 24 [(.t 6)], none⟩,
      ⟨(some 5), .mv (.t 7), none⟩,
      ⟨(some 8), .extr (.t 5) 0, none⟩,
      ⟨(some 9), .extr (.t 5) 1, none⟩,
      ⟨(some 3), .mv (.t 8), none⟩,
      ⟨(some 4), .mv (.t 9), none⟩])
    (.seq
     (.reg none [⟨(some 10), .mv (.t 0), none⟩,
       ⟨(some 11), .call 88 [(.t 10)], none⟩,
       ⟨(some 12), .mv (.t 4), none⟩,
       ⟨(some 13), .call 89 [(.t 12)], none⟩,
       ⟨(some 14), .call 55 [(.t 11), (.t 13)], none⟩,
       ⟨none, .store 2 (.t 2) (.t 14), none⟩])
     .ret))) }
theorem f51P : prepF C Try.f51 = some f51A := by kernel_rfl

/-- congou/congouref06.Tail -/
def f52A : AFunc :=
{ nargs := 1, res := [.c 2 (some 2)], body :=
  (.seq
   (.reg none [⟨(some 2), .alloc [(.int .i64 0), (.int .i64 0)], none⟩])
   (.seq
    (.reg none [⟨(some 9), .mv (.t 0), none⟩,
      ⟨(some 10), .call 24 [(.t 9)], none⟩,
      ⟨(some 8), .mv (.t 10), none⟩,
      ⟨(some 11), .extr (.t 8) 0, none⟩,
      ⟨(some 12), .extr (.t 8) 1, none⟩,
      ⟨(some 3), .mv (.t 11), none⟩,
      ⟨(some 4), .mv (.t 12), none⟩])
    (.seq
     (.reg none [⟨(some 5), .mv (.c (.int .i64 0)), none⟩])
     (.seq
      (.seq
       (.reg none [⟨(some 13), .mv (.t 0), none⟩,
         ⟨(some 14), .call 44 [(.t 13)], none⟩,
         ⟨(some 15), .len (.t 14), none⟩,
         ⟨(some 16), .mv (.c (.int .i64 0)), none⟩])
       (.block 0
        (.loop
         (.seq
          (.reg none [⟨(some 17), .bin .lss (.t 16) (.t 15), none⟩])
          (.seq
           (.cond (.t 17)
            .skip
            (.exit 0))
           (.seq
            (.block 1
             (.seq
              (.reg none [⟨(some 18), .iaddr 1 (.t 14) (.t 16), none⟩,
                ⟨(some 19), .load none (.t 18), none⟩,
                ⟨(some 7), .mv (.t 19), none⟩])
              (.seq
               (.reg none [⟨(some 20), .mv (.t 7), none⟩,
                 ⟨(some 21), .call 88 [(.t 20)], none⟩,
                 ⟨(some 22), .mv (.t 0), none⟩,
                 ⟨(some 23), .call 88 [(.t 22)], none⟩,
                 ⟨(some 24), .bin .leq (.t 21) (.t 23), none⟩])
               (.cond (.t 24)
                (.reg none [⟨(some 25), .mv (.t 5), none⟩,
                  ⟨(some 26), .mv (.t 7), none⟩,
                  ⟨(some 27), .call 88 [(.t 26)], none⟩,
                  ⟨(some 28), .bin .add (.t 25) (.t 27), none⟩,
                  ⟨(some 5), .mv (.t 28), none⟩])
                .skip))))
            (.reg none [⟨(some 29), .bin .add (.t 16) (.c (.int .i64 1)), none⟩,
              ⟨(some 16), .mv (.t 29), none⟩])))))))
      (.seq
       (.reg none [⟨(some 30), .mv (.t 5), none⟩,
         ⟨(some 31), .mv (.t 4), none⟩,
         ⟨(some 32), .call 89 [(.t 31)], none⟩,
         ⟨(some 33), .call 55 [(.t 30), (.t 32)], none⟩,
         ⟨none, .store 2 (.t 2) (.t 33), none⟩])
       .ret))))) }
theorem f52P : prepF C Try.f52 = some f52A := by kernel_rfl

/-- congou/congoulaw06.small -/
def f53A : AFunc :=
{ nargs := 1, res := [.t 2], body :=
  (.seq
   (.reg none [⟨(some 1), .box (.t 0), none⟩,
     ⟨(some 2), .mv (.c (.b false)), none⟩])
   (.seq
    (.reg none [⟨(some 3), .faddr 1 (.t 1), none⟩,
      ⟨(some 4), .load none (.t 3), none⟩,
      ⟨(some 5), .bin .geq (.t 4) (.c (.int .i64 1)), none⟩,
      ⟨(some 6), .mv (.t 5), none⟩,
      ⟨(some 7), .faddr 1 (.t 1), some (6, true)⟩,
      ⟨(some 8), .load none (.t 7), some (6, true)⟩,
      ⟨(some 9), .bin .leq (.t 8) (.c (.int .i64 1073741824)), some (6, true)⟩,
      ⟨(some 10), .pick (.t 6) (.t 9) (.c (.b false)), none⟩,
      ⟨(some 11), .mv (.t 10), none⟩,
      ⟨(some 12), .faddr 0 (.t 1), some (11, true)⟩,
      ⟨(some 13), .load none (.t 12), some (11, true)⟩,
      ⟨(some 14), .bin .geq (.t 13) (.c (.int .i64 0)), some (11, true)⟩,
      ⟨(some 15), .pick (.t 11) (.t 14) (.c (.b false)), none⟩,
      ⟨(some 16), .mv (.t 15), none⟩,
      ⟨(some 17), .faddr 0 (.t 1), some (16, true)⟩,
      ⟨(some 18), .load none (.t 17), some (16, true)⟩,
      ⟨(some 19), .bin .leq (.t 18) (.c (.int .i64 1099511627776)), some (16, true)⟩,
      ⟨(some 20), .pick (.t 16) (.t 19) (.c (.b false)), none⟩,
      ⟨(some 2), .mv (.t 20), none⟩])
    .ret)) }
theorem f53P : prepF C Try.f53 = some f53A := by kernel_rfl

/-- congou/congouref06.Less -/
def f54A : AFunc :=
{ nargs := 2, res := [.t 4], body :=
  (.seq
   (.reg none [⟨(some 2), .box (.t 0), none⟩,
     ⟨(some 3), .box (.t 1), none⟩,
     ⟨(some 4), .mv (.c (.b false)), none⟩])
   (.seq
    (.reg none [⟨(some 5), .faddr 0 (.t 2), none⟩,
      ⟨(some 6), .load none (.t 5), none⟩,
      ⟨(some 7), .faddr 1 (.t 3), none⟩,
      ⟨(some 8), .load none (.t 7), none⟩,
      ⟨(some 9), .bin .mul (.t 6) (.t 8), none⟩,
      ⟨(some 10), .faddr 0 (.t 3), none⟩,
      ⟨(some 11), .load none (.t 10), none⟩,
      ⟨(some 12), .faddr 1 (.t 2), none⟩,
      ⟨(some 13), .load none (.t 12), none⟩,
      ⟨(some 14), .bin .mul (.t 11) (.t 13), none⟩,
      ⟨(some 15), .bin .lss (.t 9) (.t 14), none⟩,
      ⟨(some 4), .mv (.t 15), none⟩])
    .ret)) }
theorem f54P : prepF C Try.f54 = some f54A := by kernel_rfl

/-- congou/congouref06.Frac -/
def f55A : AFunc :=
{ nargs := 2, res := [.c 4 (some 2)], body :=
  (.seq
   (.reg none [⟨(some 4), .alloc [(.int .i64 0), (.int .i64 0)], none⟩])
   (.seq
    (.reg none [⟨(some 7), .mv (.t 0), none⟩,
      ⟨(some 8), .mv (.t 0), none⟩,
      ⟨(some 9), .un .neg (.t 8), none⟩,
      ⟨(some 10), .mx [(.t 7), (.t 9)], none⟩,
      ⟨(some 11), .mv (.t 1), none⟩,
      ⟨(some 5), .mv (.t 10), none⟩,
      ⟨(some 6), .mv (.t 11), none⟩])
    (.seq
     (.block 0
      (.loop
       (.seq
        (.seq
         (.reg none [⟨(some 12), .mv (.t 6), none⟩,
           ⟨(some 13), .bin .neq (.t 12) (.c (.int .i64 0)), none⟩])
         (.cond (.t 13)
          .skip
          (.exit 0)))
        (.block 1
         (.reg (some []) [⟨(some 14), .mv (.t 6), none⟩,
           ⟨(some 15), .mv (.t 5), none⟩,
           ⟨(some 16), .mv (.t 6), none⟩,
           ⟨(some 17), .bin .rem (.t 15) (.t 16), none⟩,
           ⟨(some 5), .mv (.t 14), none⟩,
           ⟨(some 6), .mv (.t 17), none⟩])))))
     (.seq
      (.reg (some []) [⟨(some 18), .mv (.t 0), none⟩,
        ⟨(some 19), .mv (.t 5), none⟩,
        ⟨(some 20), .bin .quo (.t 18) (.t 19), none⟩,
        ⟨(some 21), .mv (.t 1), none⟩,
        ⟨(some 22), .mv (.t 5), none⟩,
        ⟨(some 23), .bin .quo (.t 21) (.t 22), none⟩,
        ⟨(some 24), .build [(.int .i64 0), (.int .i64 0)] [(0, 1, (.t 20)), (1, 1, (.t 23))], none⟩,
        ⟨none, .store 2 (.t 4) (.t 24), none⟩])
      .ret)))) }
theorem f55P : prepF C Try.f55 = some f55A := by kernel_rfl

/-- slices.Clone[[]int,int] -/
def f56A : AFunc :=
{ nargs := 1, res := [.t 2], body :=
  (.seq
   (.reg none [⟨(some 2), .mv (.c .nils), none⟩])
   (.seq
    (.seq
     (.reg none [⟨(some 3), .mv (.t 0), none⟩,
       ⟨(some 4), .seq false (.t 3) (.c .nils), none⟩])
     (.cond (.t 4)
      (.seq
       (.reg none [⟨(some 2), .mv (.c .nils), none⟩])
       .ret)
      .skip))
    (.seq
     (.reg none [⟨(some 5), .bslice [(.int .i64 0)] 0 1 [], none⟩,
       ⟨(some 6), .mv (.t 0), none⟩,
       ⟨(some 7), .append 1 8 (.t 5) (.t 6), none⟩,
       ⟨(some 2), .mv (.t 7), none⟩])
     .ret))) }
theorem f56P : prepF C Try.f56 = some f56A := by kernel_rfl

/-- slices.CompareFunc[[][]int,[][]int,[]int,[]int] -/
def f57A : AFunc :=
{ nargs := 3, res := [.t 6], body :=
  (.seq
   (.reg none [⟨(some 6), .mv (.c (.int .i64 0)), none⟩])
   (.seq
    (.seq
     (.reg none [⟨(some 11), .mv (.t 0), none⟩,
       ⟨(some 12), .len (.t 11), none⟩,
       ⟨(some 13), .mv (.c (.int .i64 0)), none⟩])
     (.block 0
      (.loop
       (.seq
        (.reg none [⟨(some 14), .bin .lss (.t 13) (.t 12), none⟩])
        (.seq
         (.cond (.t 14)
          .skip
          (.exit 0))
         (.seq
          (.block 1
           (.seq
            (.reg none [⟨(some 15), .mv (.t 13), none⟩,
              ⟨(some 16), .iaddr 1 (.t 11) (.t 13), none⟩,
              ⟨(some 17), .load none (.t 16), none⟩,
              ⟨(some 7), .mv (.t 15), none⟩,
              ⟨(some 8), .mv (.t 17), none⟩])
            (.seq
             (.seq
              (.reg none [⟨(some 18), .mv (.t 7), none⟩,
                ⟨(some 19), .mv (.t 1), none⟩,
                ⟨(some 20), .len (.t 19), none⟩,
                ⟨(some 21), .bin .geq (.t 18) (.t 20), none⟩])
              (.cond (.t 21)
               (.seq
                (.reg none [⟨(some 6), .mv (.c (.int .i64 1)), none⟩])
                .ret)
               .skip))
             (.seq
              (.reg none [⟨(some 22), .mv (.t 1), none⟩,
                ⟨(some 23), .mv (.t 7), none⟩,
                ⟨(some 24), .iaddr 1 (.t 22) (.t 23), none⟩,
                ⟨(some 25), .load none (.t 24), none⟩,
                ⟨(some 9), .mv (.t 25), none⟩])
              (.seq
               (.reg none [⟨(some 26), .mv (.t 2), none⟩,
                 ⟨(some 27), .mv (.t 8), none⟩,
                 ⟨(some 28), .mv (.t 9), none⟩,
                 ⟨(some 29), .callv (.t 26) [(.t 27), (.t 28)], none⟩,
                 ⟨(some 10), .mv (.t 29), none⟩])
               (.seq
                (.reg none [⟨(some 30), .mv (.t 10), none⟩,
                  ⟨(some 31), .bin .neq (.t 30) (.c (.int .i64 0)), none⟩])
                (.cond (.t 31)
                 (.seq
                  (.reg none [⟨(some 32), .mv (.t 10), none⟩,
                    ⟨(some 6), .mv (.t 32), none⟩])
                  .ret)
                 .skip)))))))
          (.reg none [⟨(some 33), .bin .add (.t 13) (.c (.int .i64 1)), none⟩,
            ⟨(some 13), .mv (.t 33), none⟩])))))))
    (.seq
     (.seq
      (.reg none [⟨(some 34), .mv (.t 0), none⟩,
        ⟨(some 35), .len (.t 34), none⟩,
        ⟨(some 36), .mv (.t 1), none⟩,
        ⟨(some 37), .len (.t 36), none⟩,
        ⟨(some 38), .bin .lss (.t 35) (.t 37), none⟩])
      (.cond (.t 38)
       (.seq
        (.reg none [⟨(some 6), .mv (.c (.int .i64 (-1))), none⟩])
        .ret)
       .skip))
     (.seq
      (.reg none [⟨(some 6), .mv (.c (.int .i64 0)), none⟩])
      .ret)))) }
theorem f57P : prepF C Try.f57 = some f57A := by kernel_rfl

/-- congou/congoulaw06.CountsSame$1 -/
def f58A : AFunc :=
{ nargs := 2, res := [.t 4], body :=
  (.seq
   (.reg none [⟨(some 4), .mv (.c (.int .i64 0)), none⟩])
   (.seq
    (.reg none [⟨(some 5), .mv (.t 0), none⟩,
      ⟨(some 6), .mv (.t 1), none⟩,
      ⟨(some 7), .call 59 [(.t 5), (.t 6)], none⟩,
      ⟨(some 4), .mv (.t 7), none⟩])
    .ret)) }
theorem f58P : prepF C Try.f58 = some f58A := by kernel_rfl

/-- slices.Compare[[]int,int] -/
def f59A : AFunc :=
{ nargs := 2, res := [.t 4], body :=
  (.seq
   (.reg none [⟨(some 4), .mv (.c (.int .i64 0)), none⟩])
   (.seq
    (.seq
     (.reg none [⟨(some 9), .mv (.t 0), none⟩,
       ⟨(some 10), .len (.t 9), none⟩,
       ⟨(some 11), .mv (.c (.int .i64 0)), none⟩])
     (.block 0
      (.loop
       (.seq
        (.reg none [⟨(some 12), .bin .lss (.t 11) (.t 10), none⟩])
        (.seq
         (.cond (.t 12)
          .skip
          (.exit 0))
         (.seq
          (.block 1
           (.seq
            (.reg none [⟨(some 13), .mv (.t 11), none⟩,
              ⟨(some 14), .iaddr 1 (.t 9) (.t 11), none⟩,
              ⟨(some 15), .load none (.t 14), none⟩,
              ⟨(some 5), .mv (.t 13), none⟩,
              ⟨(some 6), .mv (.t 15), none⟩])
            (.seq
             (.seq
              (.reg none [⟨(some 16), .mv (.t 5), none⟩,
                ⟨(some 17), .mv (.t 1), none⟩,
                ⟨(some 18), .len (.t 17), none⟩,
                ⟨(some 19), .bin .geq (.t 16) (.t 18), none⟩])
              (.cond (.t 19)
               (.seq
                (.reg none [⟨(some 4), .mv (.c (.int .i64 1)), none⟩])
                .ret)
               .skip))
             (.seq
              (.reg none [⟨(some 20), .mv (.t 1), none⟩,
                ⟨(some 21), .mv (.t 5), none⟩,
                ⟨(some 22), .iaddr 1 (.t 20) (.t 21), none⟩,
                ⟨(some 23), .load none (.t 22), none⟩,
                ⟨(some 7), .mv (.t 23), none⟩])
              (.seq
               (.reg none [⟨(some 24), .mv (.t 6), none⟩,
                 ⟨(some 25), .mv (.t 7), none⟩,
                 ⟨(some 26), .call 85 [(.t 24), (.t 25)], none⟩,
                 ⟨(some 8), .mv (.t 26), none⟩])
               (.seq
                (.reg none [⟨(some 27), .mv (.t 8), none⟩,
                  ⟨(some 28), .bin .neq (.t 27) (.c (.int .i64 0)), none⟩])
                (.cond (.t 28)
                 (.seq
                  (.reg none [⟨(some 29), .mv (.t 8), none⟩,
                    ⟨(some 4), .mv (.t 29), none⟩])
                  .ret)
                 .skip)))))))
          (.reg none [⟨(some 30), .bin .add (.t 11) (.c (.int .i64 1)), none⟩,
            ⟨(some 11), .mv (.t 30), none⟩])))))))
    (.seq
     (.seq
      (.reg none [⟨(some 31), .mv (.t 0), none⟩,
        ⟨(some 32), .len (.t 31), none⟩,
        ⟨(some 33), .mv (.t 1), none⟩,
        ⟨(some 34), .len (.t 33), none⟩,
        ⟨(some 35), .bin .lss (.t 32) (.t 34), none⟩])
      (.cond (.t 35)
       (.seq
        (.reg none [⟨(some 4), .mv (.c (.int .i64 (-1))), none⟩])
        .ret)
       .skip))
     (.seq
      (.reg none [⟨(some 4), .mv (.c (.int .i64 0)), none⟩])
      .ret)))) }
theorem f59P : prepF C Try.f59 = some f59A := by kernel_rfl

/-- congou/counts.CheckPath -/
def f61A : AFunc :=
{ nargs := 3, res := [.t 6, .t 7], body :=
  (.seq
   (.reg none [⟨(some 6), .mv (.c (.b false)), none⟩,
     ⟨(some 7), .mv (.c (.int .i64 0)), none⟩])
   (.seq
    (.seq
     (.reg none [⟨(some 11), .mv (.t 0), none⟩,
       ⟨(some 12), .call 70 [(.t 11)], none⟩,
       ⟨(some 13), .un .not (.t 12), none⟩,
       ⟨(some 14), .mv (.t 13), none⟩,
       ⟨(some 15), .mv (.t 1), some (14, false)⟩,
       ⟨(some 16), .call 70 [(.t 15)], some (14, false)⟩,
       ⟨(some 17), .un .not (.t 16), some (14, false)⟩,
       ⟨(some 18), .pick (.t 14) (.c (.b true)) (.t 17), none⟩])
     (.cond (.t 18)
      (.seq
       (.reg none [⟨(some 6), .mv (.c (.b false)), none⟩,
         ⟨(some 7), .mv (.c (.int .i64 2)), none⟩])
       .ret)
      .skip))
    (.seq
     (.seq
      (.reg none [⟨(some 19), .mv (.t 2), none⟩,
        ⟨(some 20), .len (.t 19), none⟩,
        ⟨(some 21), .bin .eql (.t 20) (.c (.int .i64 0)), none⟩,
        ⟨(some 22), .mv (.t 21), none⟩,
        ⟨(some 23), .mv (.t 2), some (22, false)⟩,
        ⟨(some 24), .iaddr 1 (.t 23) (.c (.int .i64 0)), some (22, false)⟩,
        ⟨(some 25), .load none (.t 24), some (22, false)⟩,
        ⟨(some 26), .mv (.t 0), some (22, false)⟩,
        ⟨(some 27), .call 92 [(.t 25), (.t 26)], some (22, false)⟩,
        ⟨(some 28), .bin .neq (.t 27) (.c (.int .i64 0)), some (22, false)⟩,
        ⟨(some 29), .pick (.t 22) (.c (.b true)) (.t 28), none⟩,
        ⟨(some 30), .mv (.t 29), none⟩,
        ⟨(some 31), .mv (.t 2), some (30, false)⟩,
        ⟨(some 32), .mv (.t 2), some (30, false)⟩,
        ⟨(some 33), .len (.t 32), some (30, false)⟩,
        ⟨(some 34), .bin .sub (.t 33) (.c (.int .i64 1)), some (30, false)⟩,
        ⟨(some 35), .iaddr 1 (.t 31) (.t 34), some (30, false)⟩,
        ⟨(some 36), .load none (.t 35), some (30, false)⟩,
        ⟨(some 37), .mv (.t 1), some (30, false)⟩,
        ⟨(some 38), .call 92 [(.t 36), (.t 37)], some (30, false)⟩,
        ⟨(some 39), .bin .neq (.t 38) (.c (.int .i64 0)), some (30, false)⟩,
        ⟨(some 40), .pick (.t 30) (.c (.b true)) (.t 39), none⟩])
      (.cond (.t 40)
       (.seq
        (.reg none [⟨(some 6), .mv (.c (.b false)), none⟩,
          ⟨(some 7), .mv (.c (.int .i64 0)), none⟩])
        .ret)
       .skip))
     (.seq
      (.reg none [⟨(some 41), .mv (.t 0), none⟩,
        ⟨(some 8), .mv (.t 41), none⟩])
      (.seq
       (.seq
        (.reg none [⟨(some 42), .mv (.t 2), none⟩,
          ⟨(some 43), .slice 1 (.t 42) (some (.c (.int .i64 1))) none none, none⟩,
          ⟨(some 44), .len (.t 43), none⟩,
          ⟨(some 45), .mv (.c (.int .i64 0)), none⟩])
        (.block 0
         (.loop
          (.seq
           (.reg none [⟨(some 46), .bin .lss (.t 45) (.t 44), none⟩])
           (.seq
            (.cond (.t 46)
             .skip
             (.exit 0))
            (.seq
             (.block 1
              (.seq
               (.reg none [⟨(some 47), .iaddr 1 (.t 43) (.t 45), none⟩,
                 ⟨(some 48), .load none (.t 47), none⟩,
                 ⟨(some 10), .alloc [.nils], none⟩,
                 ⟨none, .store 1 (.t 10) (.t 48), none⟩])
               (.seq
                (.seq
                 (.reg none [⟨(some 49), .mv (.t 8), none⟩,
                   ⟨(some 50), .call 93 [(.t 49)], none⟩,
                   ⟨(some 51), .mkfn 95 [] [(.t 10)], none⟩,
                   ⟨(some 52), .call 94 [(.t 50), (.t 51)], none⟩,
                   ⟨(some 53), .un .not (.t 52), none⟩])
                 (.cond (.t 53)
                  (.seq
                   (.reg none [⟨(some 6), .mv (.c (.b false)), none⟩,
                     ⟨(some 7), .mv (.c (.int .i64 0)), none⟩])
                   .ret)
                  .skip))
                (.reg none [⟨(some 54), .load none (.t 10), none⟩,
                  ⟨(some 8), .mv (.t 54), none⟩]))))
             (.reg none [⟨(some 55), .bin .add (.t 45) (.c (.int .i64 1)), none⟩,
               ⟨(some 45), .mv (.t 55), none⟩])))))))
       (.seq
        (.reg none [⟨(some 6), .mv (.c (.b true)), none⟩,
          ⟨(some 7), .mv (.c (.int .i64 0)), none⟩])
        .ret)))))) }
theorem f61P : prepF C Try.f61 = some f61A := by kernel_rfl

/-- congou/congoulaw06.path -/
def f62A : AFunc :=
{ nargs := 1, res := [.t 2], body :=
  (.seq
   (.reg none [⟨(some 2), .mv (.c .nils), none⟩])
   (.seq
    (.reg none [⟨(some 3), .mv (.c .nils), none⟩])
    (.seq
     (.seq
      (.reg none [⟨(some 6), .mv (.t 0), none⟩,
        ⟨(some 7), .len (.t 6), none⟩,
        ⟨(some 8), .mv (.c (.int .i64 0)), none⟩])
      (.block 0
       (.loop
        (.seq
         (.reg none [⟨(some 9), .bin .lss (.t 8) (.t 7), none⟩])
         (.seq
          (.cond (.t 9)
           .skip
           (.exit 0))
          (.seq
           (.block 1
            (.seq
             (.reg none [⟨(some 10), .mv (.t 8), none⟩,
               ⟨(some 11), .iaddr 1 (.t 6) (.t 8), none⟩,
               ⟨(some 12), .load none (.t 11), none⟩,
               ⟨(some 4), .mv (.t 10), none⟩,
               ⟨(some 5), .mv (.t 12), none⟩])
             (.seq
              (.reg none [⟨(some 13), .mv (.t 4), none⟩,
                ⟨(some 14), .bin .lss (.t 13) (.c (.int .i64 40)), none⟩])
              (.cond (.t 14)
               (.reg none [⟨(some 15), .mv (.t 3), none⟩,
                 ⟨(some 16), .mv (.t 5), none⟩,
                 ⟨(some 17), .call 20 [(.t 16)], none⟩,
                 ⟨(some 18), .bslice [.nils] 1 1 [(0, (.t 17))], none⟩,
                 ⟨(some 19), .append 1 24 (.t 15) (.t 18), none⟩,
                 ⟨(some 3), .mv (.t 19), none⟩])
               .skip))))
           (.reg none [⟨(some 20), .bin .add (.t 8) (.c (.int .i64 1)), none⟩,
             ⟨(some 8), .mv (.t 20), none⟩])))))))
     (.seq
      (.reg none [⟨(some 21), .mv (.t 3), none⟩,
        ⟨(some 2), .mv (.t 21), none⟩])
      .ret)))) }
theorem f62P : prepF C Try.f62 = some f62A := by kernel_rfl

/-- congou/congouref06.Akin -/
def f63A : AFunc :=
{ nargs := 2, res := [.t 4], body :=
  (.seq
   (.reg none [⟨(some 4), .mv (.c (.b false)), none⟩])
   (.seq
    (.reg (some []) [⟨(some 5), .mv (.t 0), none⟩,
      ⟨(some 6), .len (.t 5), none⟩,
      ⟨(some 7), .mv (.t 1), none⟩,
      ⟨(some 8), .len (.t 7), none⟩,
      ⟨(some 9), .bin .eql (.t 6) (.t 8), none⟩,
      ⟨(some 10), .mv (.t 9), none⟩,
      ⟨(some 11), .mv (.t 0), some (10, true)⟩,
      ⟨(some 12), .iaddr 1 (.t 11) (.c (.int .i64 0)), some (10, true)⟩,
      ⟨(some 13), .load none (.t 12), some (10, true)⟩,
      ⟨(some 14), .len (.t 13), some (10, true)⟩,
      ⟨(some 15), .mv (.t 1), some (10, true)⟩,
      ⟨(some 16), .iaddr 1 (.t 15) (.c (.int .i64 0)), some (10, true)⟩,
      ⟨(some 17), .load none (.t 16), some (10, true)⟩,
      ⟨(some 18), .len (.t 17), some (10, true)⟩,
      ⟨(some 19), .bin .eql (.t 14) (.t 18), some (10, true)⟩,
      ⟨(some 20), .pick (.t 10) (.t 19) (.c (.b false)), none⟩,
      ⟨(some 21), .mv (.t 20), none⟩,
      ⟨(some 22), .mv (.t 0), some (21, true)⟩,
      ⟨(some 23), .call 44 [(.t 22)], some (21, true)⟩,
      ⟨(some 24), .mv (.t 1), some (21, true)⟩,
      ⟨(some 25), .call 96 [(.t 23), (.t 24)], some (21, true)⟩,
      ⟨(some 26), .pick (.t 21) (.t 25) (.c (.b false)), none⟩,
      ⟨(some 4), .mv (.t 26), none⟩])
    .ret)) }
theorem f63P : prepF C Try.f63 = some f63A := by kernel_rfl

/-- congou/congouref06.IsPath -/
def f64A : AFunc :=
{ nargs := 3, res := [.t 6], body :=
  (.seq
   (.reg none [⟨(some 6), .mv (.c (.b false)), none⟩])
   (.seq
    (.seq
     (.reg none [⟨(some 9), .mv (.t 2), none⟩,
       ⟨(some 10), .len (.t 9), none⟩,
       ⟨(some 11), .mv (.c (.int .i64 0)), none⟩])
     (.block 0
      (.loop
       (.seq
        (.reg none [⟨(some 12), .bin .lss (.t 11) (.t 10), none⟩])
        (.seq
         (.cond (.t 12)
          .skip
          (.exit 0))
         (.seq
          (.block 1
           (.seq
            (.reg none [⟨(some 13), .mv (.t 11), none⟩,
              ⟨(some 14), .iaddr 1 (.t 9) (.t 11), none⟩,
              ⟨(some 15), .load none (.t 14), none⟩,
              ⟨(some 7), .mv (.t 13), none⟩,
              ⟨(some 8), .mv (.t 15), none⟩])
            (.seq
             (.reg none [⟨(some 16), .mv (.t 7), none⟩,
               ⟨(some 17), .bin .eql (.t 16) (.c (.int .i64 0)), none⟩,
               ⟨(some 18), .mv (.t 17), none⟩,
               ⟨(some 19), .mv (.t 8), some (18, true)⟩,
               ⟨(some 20), .mv (.t 0), some (18, true)⟩,
               ⟨(some 21), .call 26 [(.t 19), (.t 20)], some (18, true)⟩,
               ⟨(some 22), .un .not (.t 21), some (18, true)⟩,
               ⟨(some 23), .pick (.t 18) (.t 22) (.c (.b false)), none⟩,
               ⟨(some 24), .mv (.t 23), none⟩,
               ⟨(some 25), .mv (.t 7), some (24, false)⟩,
               ⟨(some 26), .bin .gtr (.t 25) (.c (.int .i64 0)), some (24, false)⟩,
               ⟨(some 27), .mv (.t 26), some (24, false)⟩,
               ⟨(some 28), .mv (.t 2), some (27, true)⟩,
               ⟨(some 29), .mv (.t 7), some (27, true)⟩,
               ⟨(some 30), .bin .sub (.t 29) (.c (.int .i64 1)), some (27, true)⟩,
               ⟨(some 31), .iaddr 1 (.t 28) (.t 30), some (27, true)⟩,
               ⟨(some 32), .load none (.t 31), some (27, true)⟩,
               ⟨(some 33), .call 97 [(.t 32)], some (27, true)⟩,
               ⟨(some 34), .mv (.t 8), some (27, true)⟩,
               ⟨(some 35), .call 96 [(.t 33), (.t 34)], some (27, true)⟩,
               ⟨(some 36), .un .not (.t 35), some (27, true)⟩,
               ⟨(some 37), .pick (.t 27) (.t 36) (.c (.b false)), some (24, false)⟩,
               ⟨(some 38), .pick (.t 24) (.c (.b true)) (.t 37), none⟩])
             (.cond (.t 38)
              (.seq
               (.reg none [⟨(some 6), .mv (.c (.b false)), none⟩])
               .ret)
              .skip))))
          (.reg none [⟨(some 39), .bin .add (.t 11) (.c (.int .i64 1)), none⟩,
            ⟨(some 11), .mv (.t 39), none⟩])))))))
    (.seq
     (.reg none [⟨(some 40), .mv (.t 2), none⟩,
       ⟨(some 41), .len (.t 40), none⟩,
       ⟨(some 42), .bin .gtr (.t 41) (.c (.int .i64 0)), none⟩,
       ⟨(some 43), .mv (.t 42), none⟩,
       ⟨(some 44), .mv (.t 2), some (43, true)⟩,
       ⟨(some 45), .mv (.t 2), some (43, true)⟩,
       ⟨(some 46), .len (.t 45), some (43, true)⟩,
       ⟨(some 47), .bin .sub (.t 46) (.c (.int .i64 1)), some (43, true)⟩,
       ⟨(some 48), .iaddr 1 (.t 44) (.t 47), some (43, true)⟩,
       ⟨(some 49), .load none (.t 48), some (43, true)⟩,
       ⟨(some 50), .mv (.t 1), some (43, true)⟩,
       ⟨(some 51), .call 26 [(.t 49), (.t 50)], some (43, true)⟩,
       ⟨(some 52), .pick (.t 43) (.t 51) (.c (.b false)), none⟩,
       ⟨(some 6), .mv (.t 52), none⟩])
     .ret))) }
theorem f64P : prepF C Try.f64 = some f64A := by kernel_rfl

/-- congou/congouref06.Far -/
def f65A : AFunc :=
{ nargs := 2, res := [.t 4], body :=
  (.seq
   (.reg none [⟨(some 4), .mv (.c (.int .i64 0)), none⟩])
   (.seq
    (.reg none [⟨(some 13), .mv (.t 0), none⟩,
      ⟨(some 14), .bslice [.nils] 1 1 [(0, (.t 13))], none⟩,
      ⟨(some 15), .mv (.t 0), none⟩,
      ⟨(some 16), .bslice [.nils] 1 1 [(0, (.t 15))], none⟩,
      ⟨(some 5), .mv (.t 14), none⟩,
      ⟨(some 6), .mv (.t 16), none⟩])
    (.seq
     (.reg none [⟨(some 7), .mv (.c (.int .i64 0)), none⟩])
     (.block 0
      (.loop
       (.seq
        (.block 1
         (.seq
          (.seq
           (.reg none [⟨(some 19), .mv (.t 5), none⟩,
             ⟨(some 20), .mv (.t 1), none⟩,
             ⟨(some 21), .call 96 [(.t 19), (.t 20)], none⟩])
           (.cond (.t 21)
            (.seq
             (.reg none [⟨(some 22), .mv (.t 7), none⟩,
               ⟨(some 4), .mv (.t 22), none⟩])
             .ret)
            .skip))
          (.seq
           (.reg none [⟨(some 8), .mv (.c .nils), none⟩])
           (.seq
            (.seq
             (.reg none [⟨(some 23), .mv (.t 5), none⟩,
               ⟨(some 24), .len (.t 23), none⟩,
               ⟨(some 25), .mv (.c (.int .i64 0)), none⟩])
             (.block 2
              (.loop
               (.seq
                (.reg none [⟨(some 26), .bin .lss (.t 25) (.t 24), none⟩])
                (.seq
                 (.cond (.t 26)
                  .skip
                  (.exit 2))
                 (.seq
                  (.block 3
                   (.seq
                    (.reg none [⟨(some 27), .iaddr 1 (.t 23) (.t 25), none⟩,
                      ⟨(some 28), .load none (.t 27), none⟩,
                      ⟨(some 10), .mv (.t 28), none⟩])
                    (.seq
                     (.reg none [⟨(some 29), .mv (.t 10), none⟩,
                       ⟨(some 30), .call 97 [(.t 29)], none⟩,
                       ⟨(some 31), .len (.t 30), none⟩,
                       ⟨(some 32), .mv (.c (.int .i64 0)), none⟩])
                     (.block 4
                      (.loop
                       (.seq
                        (.reg none [⟨(some 33), .bin .lss (.t 32) (.t 31), none⟩])
                        (.seq
                         (.cond (.t 33)
                          .skip
                          (.exit 4))
                         (.seq
                          (.block 5
                           (.seq
                            (.reg none [⟨(some 34), .iaddr 1 (.t 30) (.t 32), none⟩,
                              ⟨(some 35), .load none (.t 34), none⟩,
                              ⟨(some 12), .mv (.t 35), none⟩])
                            (.seq
                             (.reg none [⟨(some 36), .mv (.t 6), none⟩,
                               ⟨(some 37), .mv (.t 12), none⟩,
                               ⟨(some 38), .call 96 [(.t 36), (.t 37)], none⟩,
                               ⟨(some 39), .un .not (.t 38), none⟩])
                             (.cond (.t 39)
                              (.seq
                               (.reg none [⟨(some 40), .mv (.t 6), none⟩,
                                 ⟨(some 41), .mv (.t 12), none⟩,
                                 ⟨(some 42), .bslice [.nils] 1 1 [(0, (.t 41))], none⟩,
                                 ⟨(some 43), .append 1 24 (.t 40) (.t 42), none⟩,
                                 ⟨(some 6), .mv (.t 43), none⟩])
                               (.reg none [⟨(some 44), .mv (.t 8), none⟩,
                                 ⟨(some 45), .mv (.t 12), none⟩,
                                 ⟨(some 46), .bslice [.nils] 1 1 [(0, (.t 45))], none⟩,
                                 ⟨(some 47), .append 1 24 (.t 44) (.t 46), none⟩,
                                 ⟨(some 8), .mv (.t 47), none⟩]))
                              .skip))))
                          (.reg none [⟨(some 48), .bin .add (.t 32) (.c (.int .i64 1)), none⟩,
                            ⟨(some 32), .mv (.t 48), none⟩])))))))))
                  (.reg none [⟨(some 49), .bin .add (.t 25) (.c (.int .i64 1)), none⟩,
                    ⟨(some 25), .mv (.t 49), none⟩])))))))
            (.reg none [⟨(some 50), .mv (.t 8), none⟩,
              ⟨(some 5), .mv (.t 50), none⟩])))))
        (.reg none [⟨(some 17), .mv (.t 7), none⟩,
          ⟨(some 18), .bin .add (.t 17) (.c (.int .i64 1)), none⟩,
          ⟨(some 7), .mv (.t 18), none⟩]))))))) }
theorem f65P : prepF C Try.f65 = some f65A := by kernel_rfl

/-- slices.ContainsFunc[[][][]int,[][]int] -/
def f66A : AFunc :=
{ nargs := 2, res := [.t 4], body :=
  (.seq
   (.reg none [⟨(some 4), .mv (.c (.b false)), none⟩])
   (.seq
    (.reg none [⟨(some 5), .mv (.t 0), none⟩,
      ⟨(some 6), .mv (.t 1), none⟩,
      ⟨(some 7), .call 98 [(.t 5), (.t 6)], none⟩,
      ⟨(some 8), .bin .geq (.t 7) (.c (.int .i64 0)), none⟩,
      ⟨(some 4), .mv (.t 8), none⟩])
    .ret)) }
theorem f66P : prepF C Try.f66 = some f66A := by kernel_rfl

/-- congou/congoulaw06.CountsLed$1 -/
def f67A : AFunc :=
{ nargs := 2, res := [.t 3], body :=
  (.seq
   (.reg none [⟨(some 3), .mv (.c (.b false)), none⟩])
   (.seq
    (.reg none [⟨(some 4), .load none (.t 1), none⟩,
      ⟨(some 5), .mv (.t 0), none⟩,
      ⟨(some 6), .call 26 [(.t 4), (.t 5)], none⟩,
      ⟨(some 3), .mv (.t 6), none⟩])
    .ret)) }
theorem f67P : prepF C Try.f67 = some f67A := by kernel_rfl

/-- slices.Reverse[[][][]int,[][]int] -/
def f68A : AFunc :=
{ nargs := 1, res := [], body :=
  (.seq
   (.reg none [⟨(some 4), .mv (.t 0), none⟩,
     ⟨(some 5), .len (.t 4), none⟩,
     ⟨(some 6), .bin .sub (.t 5) (.c (.int .i64 1)), none⟩,
     ⟨(some 2), .mv (.c (.int .i64 0)), none⟩,
     ⟨(some 3), .mv (.t 6), none⟩])
   (.block 0
    (.loop
     (.seq
      (.seq
       (.reg none [⟨(some 7), .mv (.t 2), none⟩,
         ⟨(some 8), .mv (.t 3), none⟩,
         ⟨(some 9), .bin .lss (.t 7) (.t 8), none⟩])
       (.cond (.t 9)
        .skip
        (.exit 0)))
      (.seq
       (.block 1
        (.reg (some []) [⟨(some 14), .mv (.t 0), none⟩,
          ⟨(some 15), .mv (.t 2), none⟩,
          ⟨(some 16), .mv (.t 0), none⟩,
          ⟨(some 17), .mv (.t 3), none⟩,
          ⟨(some 18), .mv (.t 0), none⟩,
          ⟨(some 19), .mv (.t 3), none⟩,
          ⟨(some 20), .iaddr 1 (.t 18) (.t 19), none⟩,
          ⟨(some 21), .load none (.t 20), none⟩,
          ⟨(some 22), .mv (.t 0), none⟩,
          ⟨(some 23), .mv (.t 2), none⟩,
          ⟨(some 24), .iaddr 1 (.t 22) (.t 23), none⟩,
          ⟨(some 25), .load none (.t 24), none⟩,
          ⟨(some 26), .iaddr 1 (.t 14) (.t 15), none⟩,
          ⟨none, .store 1 (.t 26) (.t 21), none⟩,
          ⟨(some 27), .iaddr 1 (.t 16) (.t 17), none⟩,
          ⟨none, .store 1 (.t 27) (.t 25), none⟩]))
       (.reg none [⟨(some 10), .mv (.t 2), none⟩,
         ⟨(some 11), .bin .add (.t 10) (.c (.int .i64 1)), none⟩,
         ⟨(some 12), .mv (.t 3), none⟩,
         ⟨(some 13), .bin .sub (.t 12) (.c (.int .i64 1)), none⟩,
         ⟨(some 2), .mv (.t 11), none⟩,
         ⟨(some 3), .mv (.t 13), none⟩])))))) }
theorem f68P : prepF C Try.f68 = some f68A := by kernel_rfl

/-- congou/congoulaw06.CountsLed$2 -/
def f69A : AFunc :=
{ nargs := 2, res := [.t 3], body :=
  (.seq
   (.reg none [⟨(some 3), .mv (.c (.b false)), none⟩])
   (.seq
    (.reg none [⟨(some 4), .load none (.t 1), none⟩,
      ⟨(some 5), .mv (.t 0), none⟩,
      ⟨(some 6), .call 26 [(.t 4), (.t 5)], none⟩,
      ⟨(some 3), .mv (.t 6), none⟩])
    .ret)) }
theorem f69P : prepF C Try.f69 = some f69A := by kernel_rfl

/-- (congou/counts.table).valid -/
def f70A : AFunc :=
{ nargs := 1, res := [.t 2], body :=
  (.seq
   (.reg none [⟨(some 2), .mv (.c (.b false)), none⟩])
   (.seq
    (.seq
     (.reg none [⟨(some 8), .mv (.t 0), none⟩,
       ⟨(some 9), .len (.t 8), none⟩,
       ⟨(some 10), .bin .lss (.t 9) (.c (.int .i64 1)), none⟩,
       ⟨(some 11), .mv (.t 10), none⟩,
       ⟨(some 12), .mv (.t 0), some (11, false)⟩,
       ⟨(some 13), .len (.t 12), some (11, false)⟩,
       ⟨(some 14), .bin .gtr (.t 13) (.c (.int .i64 3)), some (11, false)⟩,
       ⟨(some 15), .pick (.t 11) (.c (.b true)) (.t 14), none⟩])
     (.cond (.t 15)
      (.seq
       (.reg none [⟨(some 2), .mv (.c (.b false)), none⟩])
       .ret)
      .skip))
    (.seq
     (.reg none [⟨(some 3), .mv (.c (.int .i64 0)), none⟩])
     (.seq
      (.seq
       (.reg none [⟨(some 16), .mv (.t 0), none⟩,
         ⟨(some 17), .len (.t 16), none⟩,
         ⟨(some 18), .mv (.c (.int .i64 0)), none⟩])
       (.block 0
        (.loop
         (.seq
          (.reg none [⟨(some 19), .bin .lss (.t 18) (.t 17), none⟩])
          (.seq
           (.cond (.t 19)
            .skip
            (.exit 0))
           (.seq
            (.block 1
             (.seq
              (.reg none [⟨(some 20), .iaddr 1 (.t 16) (.t 18), none⟩,
                ⟨(some 21), .load none (.t 20), none⟩,
                ⟨(some 5), .mv (.t 21), none⟩])
              (.seq
               (.seq
                (.reg none [⟨(some 22), .mv (.t 5), none⟩,
                  ⟨(some 23), .len (.t 22), none⟩,
                  ⟨(some 24), .bin .lss (.t 23) (.c (.int .i64 1)), none⟩,
                  ⟨(some 25), .mv (.t 24), none⟩,
                  ⟨(some 26), .mv (.t 5), some (25, false)⟩,
                  ⟨(some 27), .len (.t 26), some (25, false)⟩,
                  ⟨(some 28), .bin .gtr (.t 27) (.c (.int .i64 3)), some (25, false)⟩,
                  ⟨(some 29), .pick (.t 25) (.c (.b true)) (.t 28), none⟩,
                  ⟨(some 30), .mv (.t 29), none⟩,
                  ⟨(some 31), .mv (.t 5), some (30, false)⟩,
                  ⟨(some 32), .len (.t 31), some (30, false)⟩,
                  ⟨(some 33), .mv (.t 0), some (30, false)⟩,
                  ⟨(some 34), .iaddr 1 (.t 33) (.c (.int .i64 0)), some (30, false)⟩,
                  ⟨(some 35), .load none (.t 34), some (30, false)⟩,
                  ⟨(some 36), .len (.t 35), some (30, false)⟩,
                  ⟨(some 37), .bin .neq (.t 32) (.t 36), some (30, false)⟩,
                  ⟨(some 38), .pick (.t 30) (.c (.b true)) (.t 37), none⟩,
                  ⟨(some 39), .mv (.t 38), none⟩,
                  ⟨(some 40), .mv (.t 5), some (39, false)⟩,
                  ⟨(some 41), .call 79 [(.t 40)], some (39, false)⟩,
                  ⟨(some 42), .un .not (.t 41), some (39, false)⟩,
                  ⟨(some 43), .pick (.t 39) (.c (.b true)) (.t 42), none⟩])
                (.cond (.t 43)
                 (.seq
                  (.reg none [⟨(some 2), .mv (.c (.b false)), none⟩])
                  .ret)
                 .skip))
               (.seq
                (.reg none [⟨(some 44), .mv (.t 5), none⟩,
                  ⟨(some 45), .len (.t 44), none⟩,
                  ⟨(some 46), .mv (.c (.int .i64 0)), none⟩])
                (.block 2
                 (.loop
                  (.seq
                   (.reg none [⟨(some 47), .bin .lss (.t 46) (.t 45), none⟩])
                   (.seq
                    (.cond (.t 47)
                     .skip
                     (.exit 2))
                    (.seq
                     (.block 3
                      (.seq
                       (.reg none [⟨(some 48), .iaddr 1 (.t 44) (.t 46), none⟩,
                         ⟨(some 49), .load none (.t 48), none⟩,
                         ⟨(some 7), .mv (.t 49), none⟩])
                       (.reg none [⟨(some 50), .mv (.t 3), none⟩,
                         ⟨(some 51), .mv (.t 7), none⟩,
                         ⟨(some 52), .bin .add (.t 50) (.t 51), none⟩,
                         ⟨(some 3), .mv (.t 52), none⟩])))
                     (.reg none [⟨(some 53), .bin .add (.t 46) (.c (.int .i64 1)), none⟩,
                       ⟨(some 46), .mv (.t 53), none⟩]))))))))))
            (.reg none [⟨(some 54), .bin .add (.t 18) (.c (.int .i64 1)), none⟩,
              ⟨(some 18), .mv (.t 54), none⟩])))))))
      (.seq
       (.reg none [⟨(some 55), .mv (.t 3), none⟩,
         ⟨(some 56), .bin .leq (.t 55) (.c (.int .i64 16)), none⟩,
         ⟨(some 2), .mv (.t 56), none⟩])
       .ret))))) }
theorem f70P : prepF C Try.f70 = some f70A := by kernel_rfl

/-- (congou/counts.table).sums -/
def f71A : AFunc :=
{ nargs := 1, res := [.t 2, .t 3], body :=
  (.seq
   (.reg none [⟨(some 2), .mv (.c .nils), none⟩,
     ⟨(some 3), .mv (.c .nils), none⟩])
   (.seq
    (.reg none [⟨(some 9), .mv (.t 0), none⟩,
      ⟨(some 10), .iaddr 1 (.t 9) (.c (.int .i64 0)), none⟩,
      ⟨(some 11), .load none (.t 10), none⟩,
      ⟨(some 12), .len (.t 11), none⟩,
      ⟨(some 13), .mkslice 1 8 [(.int .i64 0)] (.t 12), none⟩,
      ⟨(some 3), .mv (.t 13), none⟩])
    (.seq
     (.seq
      (.reg none [⟨(some 14), .mv (.t 0), none⟩,
        ⟨(some 15), .len (.t 14), none⟩,
        ⟨(some 16), .mv (.c (.int .i64 0)), none⟩])
      (.block 0
       (.loop
        (.seq
         (.reg none [⟨(some 17), .bin .lss (.t 16) (.t 15), none⟩])
         (.seq
          (.cond (.t 17)
           .skip
           (.exit 0))
          (.seq
           (.block 1
            (.seq
             (.reg none [⟨(some 18), .iaddr 1 (.t 14) (.t 16), none⟩,
               ⟨(some 19), .load none (.t 18), none⟩,
               ⟨(some 5), .mv (.t 19), none⟩])
             (.seq
              (.reg none [⟨(some 6), .mv (.c (.int .i64 0)), none⟩])
              (.seq
               (.seq
                (.reg none [⟨(some 20), .mv (.t 5), none⟩,
                  ⟨(some 21), .len (.t 20), none⟩,
                  ⟨(some 22), .mv (.c (.int .i64 0)), none⟩])
                (.block 2
                 (.loop
                  (.seq
                   (.reg none [⟨(some 23), .bin .lss (.t 22) (.t 21), none⟩])
                   (.seq
                    (.cond (.t 23)
                     .skip
                     (.exit 2))
                    (.seq
                     (.block 3
                      (.seq
                       (.reg none [⟨(some 24), .mv (.t 22), none⟩,
                         ⟨(some 25), .iaddr 1 (.t 20) (.t 22), none⟩,
                         ⟨(some 26), .load none (.t 25), none⟩,
                         ⟨(some 7), .mv (.t 24), none⟩,
                         ⟨(some 8), .mv (.t 26), none⟩])
                       (.seq
                        (.reg none [⟨(some 27), .mv (.t 6), none⟩,
                          ⟨(some 28), .mv (.t 8), none⟩,
                          ⟨(some 29), .bin .add (.t 27) (.t 28), none⟩,
                          ⟨(some 6), .mv (.t 29), none⟩])
                        (.reg none [⟨(some 30), .mv (.t 3), none⟩,
                          ⟨(some 31), .mv (.t 7), none⟩,
                          ⟨(some 32), .iaddr 1 (.t 30) (.t 31), none⟩,
                          ⟨(some 33), .load none (.t 32), none⟩,
                          ⟨(some 34), .mv (.t 8), none⟩,
                          ⟨(some 35), .bin .add (.t 33) (.t 34), none⟩,
                          ⟨(some 36), .iaddr 1 (.t 30) (.t 31), none⟩,
                          ⟨none, .store 1 (.t 36) (.t 35), none⟩]))))
                     (.reg none [⟨(some 37), .bin .add (.t 22) (.c (.int .i64 1)), none⟩,
                       ⟨(some 22), .mv (.t 37), none⟩])))))))
               (.reg none [⟨(some 38), .mv (.t 2), none⟩,
                 ⟨(some 39), .mv (.t 6), none⟩,
                 ⟨(some 40), .bslice [(.int .i64 0)] 1 1 [(0, (.t 39))], none⟩,
                 ⟨(some 41), .append 1 8 (.t 38) (.t 40), none⟩,
                 ⟨(some 2), .mv (.t 41), none⟩])))))
           (.reg none [⟨(some 42), .bin .add (.t 16) (.c (.int .i64 1)), none⟩,
             ⟨(some 16), .mv (.t 42), none⟩])))))))
     (.seq
      (.reg none [⟨(some 43), .mv (.t 2), none⟩,
        ⟨(some 44), .mv (.t 3), none⟩,
        ⟨(some 2), .mv (.t 43), none⟩,
        ⟨(some 3), .mv (.t 44), none⟩])
      .ret)))) }
theorem f71P : prepF C Try.f71 = some f71A := by kernel_rfl

/-- (congou/counts.table).four -/
def f72A : AFunc :=
{ nargs := 1, res := [.t 2], body :=
  (.seq
   (.reg none [⟨(some 2), .mv (.c (.b false)), none⟩])
   (.seq
    (.reg none [⟨(some 3), .mv (.t 0), none⟩,
      ⟨(some 4), .call 70 [(.t 3)], none⟩,
      ⟨(some 5), .mv (.t 4), none⟩,
      ⟨(some 6), .mv (.t 0), some (5, true)⟩,
      ⟨(some 7), .len (.t 6), some (5, true)⟩,
      ⟨(some 8), .bin .eql (.t 7) (.c (.int .i64 2)), some (5, true)⟩,
      ⟨(some 9), .pick (.t 5) (.t 8) (.c (.b false)), none⟩,
      ⟨(some 10), .mv (.t 9), none⟩,
      ⟨(some 11), .mv (.t 0), some (10, true)⟩,
      ⟨(some 12), .iaddr 1 (.t 11) (.c (.int .i64 0)), some (10, true)⟩,
      ⟨(some 13), .load none (.t 12), some (10, true)⟩,
      ⟨(some 14), .len (.t 13), some (10, true)⟩,
      ⟨(some 15), .bin .eql (.t 14) (.c (.int .i64 2)), some (10, true)⟩,
      ⟨(some 16), .pick (.t 10) (.t 15) (.c (.b false)), none⟩,
      ⟨(some 2), .mv (.t 16), none⟩])
    .ret)) }
theorem f72P : prepF C Try.f72 = some f72A := by kernel_rfl

/-- congou/counts.frac -/
def f73A : AFunc :=
{ nargs := 2, res := [.c 4 (some 2)], body :=
  (.seq
   (.reg none [⟨(some 4), .alloc [(.int .i64 0), (.int .i64 0)], none⟩])
   (.seq
    (.reg none [⟨(some 6), .mv (.t 0), none⟩,
      ⟨(some 7), .mv (.t 1), none⟩,
      ⟨(some 8), .call 99 [(.t 6), (.t 7)], none⟩,
      ⟨(some 5), .mv (.t 8), none⟩])
    (.seq
     (.reg (some []) [⟨(some 9), .mv (.t 0), none⟩,
       ⟨(some 10), .mv (.t 5), none⟩,
       ⟨(some 11), .bin .quo (.t 9) (.t 10), none⟩,
       ⟨(some 12), .mv (.t 1), none⟩,
       ⟨(some 13), .mv (.t 5), none⟩,
       ⟨(some 14), .bin .quo (.t 12) (.t 13), none⟩,
       ⟨(some 15), .build [(.int .i64 0), (.int .i64 0)] [(0, 1, (.t 11)), (1, 1, (.t 14))], none⟩,
       ⟨none, .store 2 (.t 4) (.t 15), none⟩])
     .ret))) }
theorem f73P : prepF C Try.f73 = some f73A := by kernel_rfl

/-- (congou/counts.table).swapped -/
def f74A : AFunc :=
{ nargs := 5, res := [.t 10, .t 11], body :=
  (.seq
   (.reg none [⟨(some 10), .mv (.c .nils), none⟩,
     ⟨(some 11), .mv (.c (.b false)), none⟩])
   (.seq
    (.seq
     (.reg none [⟨(some 13), .mv (.t 0), none⟩,
       ⟨(some 14), .mv (.t 1), none⟩,
       ⟨(some 15), .iaddr 1 (.t 13) (.t 14), none⟩,
       ⟨(some 16), .load none (.t 15), none⟩,
       ⟨(some 17), .mv (.t 4), none⟩,
       ⟨(some 18), .iaddr 1 (.t 16) (.t 17), none⟩,
       ⟨(some 19), .load none (.t 18), none⟩,
       ⟨(some 20), .bin .eql (.t 19) (.c (.int .i64 0)), none⟩,
       ⟨(some 21), .mv (.t 20), none⟩,
       ⟨(some 22), .mv (.t 0), some (21, false)⟩,
       ⟨(some 23), .mv (.t 2), some (21, false)⟩,
       ⟨(some 24), .iaddr 1 (.t 22) (.t 23), some (21, false)⟩,
       ⟨(some 25), .load none (.t 24), some (21, false)⟩,
       ⟨(some 26), .mv (.t 3), some (21, false)⟩,
       ⟨(some 27), .iaddr 1 (.t 25) (.t 26), some (21, false)⟩,
       ⟨(some 28), .load none (.t 27), some (21, false)⟩,
       ⟨(some 29), .bin .eql (.t 28) (.c (.int .i64 0)), some (21, false)⟩,
       ⟨(some 30), .pick (.t 21) (.c (.b true)) (.t 29), none⟩])
     (.cond (.t 30)
      (.seq
       (.reg none [⟨(some 10), .mv (.c .nils), none⟩,
         ⟨(some 11), .mv (.c (.b false)), none⟩])
       .ret)
      .skip))
    (.seq
     (.reg none [⟨(some 31), .mv (.t 0), none⟩,
       ⟨(some 32), .call 84 [(.t 31)], none⟩,
       ⟨(some 12), .mv (.t 32), none⟩])
     (.seq
      (.reg none [⟨(some 33), .mv (.t 12), none⟩,
        ⟨(some 34), .mv (.t 1), none⟩,
        ⟨(some 35), .iaddr 1 (.t 33) (.t 34), none⟩,
        ⟨(some 36), .load none (.t 35), none⟩,
        ⟨(some 37), .mv (.t 3), none⟩,
        ⟨(some 38), .iaddr 1 (.t 36) (.t 37), none⟩,
        ⟨(some 39), .load none (.t 38), none⟩,
        ⟨(some 40), .bin .add (.t 39) (.c (.int .i64 1)), none⟩,
        ⟨(some 41), .iaddr 1 (.t 36) (.t 37), none⟩,
        ⟨none, .store 1 (.t 41) (.t 40), none⟩])
      (.seq
       (.reg none [⟨(some 42), .mv (.t 12), none⟩,
         ⟨(some 43), .mv (.t 2), none⟩,
         ⟨(some 44), .iaddr 1 (.t 42) (.t 43), none⟩,
         ⟨(some 45), .load none (.t 44), none⟩,
         ⟨(some 46), .mv (.t 4), none⟩,
         ⟨(some 47), .iaddr 1 (.t 45) (.t 46), none⟩,
         ⟨(some 48), .load none (.t 47), none⟩,
         ⟨(some 49), .bin .add (.t 48) (.c (.int .i64 1)), none⟩,
         ⟨(some 50), .iaddr 1 (.t 45) (.t 46), none⟩,
         ⟨none, .store 1 (.t 50) (.t 49), none⟩])
       (.seq
        (.reg none [⟨(some 51), .mv (.t 12), none⟩,
          ⟨(some 52), .mv (.t 1), none⟩,
          ⟨(some 53), .iaddr 1 (.t 51) (.t 52), none⟩,
          ⟨(some 54), .load none (.t 53), none⟩,
          ⟨(some 55), .mv (.t 4), none⟩,
          ⟨(some 56), .iaddr 1 (.t 54) (.t 55), none⟩,
          ⟨(some 57), .load none (.t 56), none⟩,
          ⟨(some 58), .bin .sub (.t 57) (.c (.int .i64 1)), none⟩,
          ⟨(some 59), .iaddr 1 (.t 54) (.t 55), none⟩,
          ⟨none, .store 1 (.t 59) (.t 58), none⟩])
        (.seq
         (.reg none [⟨(some 60), .mv (.t 12), none⟩,
           ⟨(some 61), .mv (.t 2), none⟩,
           ⟨(some 62), .iaddr 1 (.t 60) (.t 61), none⟩,
           ⟨(some 63), .load none (.t 62), none⟩,
           ⟨(some 64), .mv (.t 3), none⟩,
           ⟨(some 65), .iaddr 1 (.t 63) (.t 64), none⟩,
           ⟨(some 66), .load none (.t 65), none⟩,
           ⟨(some 67), .bin .sub (.t 66) (.c (.int .i64 1)), none⟩,
           ⟨(some 68), .iaddr 1 (.t 63) (.t 64), none⟩,
           ⟨none, .store 1 (.t 68) (.t 67), none⟩])
         (.seq
          (.reg none [⟨(some 69), .mv (.t 12), none⟩,
            ⟨(some 10), .mv (.t 69), none⟩,
            ⟨(some 11), .mv (.c (.b true)), none⟩])
          .ret)))))))) }
theorem f74P : prepF C Try.f74 = some f74A := by kernel_rfl

/-- slices.Min[[]int,int] -/
def f75A : AFunc :=
{ nargs := 1, res := [.t 2], body :=
  (.seq
   (.reg none [⟨(some 2), .mv (.c (.int .i64 0)), none⟩])
   (.seq
    (.seq
     (.reg none [⟨(some 5), .mv (.t 0), none⟩,
       ⟨(some 6), .len (.t 5), none⟩,
       ⟨(some 7), .bin .lss (.t 6) (.c (.int .i64 1)), none⟩])
     (.cond (.t 7)
      (.reg none [⟨(some 8), .bad, none⟩,
        ⟨none, .bad, none⟩])
      .skip))
    (.seq
     (.reg none [⟨(some 9), .mv (.t 0), none⟩,
       ⟨(some 10), .iaddr 1 (.t 9) (.c (.int .i64 0)), none⟩,
       ⟨(some 11), .load none (.t 10), none⟩,
       ⟨(some 3), .mv (.t 11), none⟩])
     (.seq
      (.seq
       (.reg none [⟨(some 4), .mv (.c (.int .i64 1)), none⟩])
       (.block 0
        (.loop
         (.seq
          (.seq
           (.reg none [⟨(some 12), .mv (.t 4), none⟩,
             ⟨(some 13), .mv (.t 0), none⟩,
             ⟨(some 14), .len (.t 13), none⟩,
             ⟨(some 15), .bin .lss (.t 12) (.t 14), none⟩])
           (.cond (.t 15)
            .skip
            (.exit 0)))
          (.seq
           (.block 1
            (.reg none [⟨(some 18), .mv (.t 3), none⟩,
              ⟨(some 19), .mv (.t 0), none⟩,
              ⟨(some 20), .mv (.t 4), none⟩,
              ⟨(some 21), .iaddr 1 (.t 19) (.t 20), none⟩,
              ⟨(some 22), .load none (.t 21), none⟩,
              ⟨(some 23), .mn [(.t 18), (.t 22)], none⟩,
              ⟨(some 3), .mv (.t 23), none⟩]))
           (.reg none [⟨(some 16), .mv (.t 4), none⟩,
             ⟨(some 17), .bin .add (.t 16) (.c (.int .i64 1)), none⟩,
             ⟨(some 4), .mv (.t 17), none⟩]))))))
      (.seq
       (.reg none [⟨(some 24), .mv (.t 3), none⟩,
         ⟨(some 2), .mv (.t 24), none⟩])
       .ret))))) }
theorem f75P : prepF C Try.f75 = some f75A := by kernel_rfl

/-- congou/counts.plus -/
def f76A : AFunc :=
{ nargs := 2, res := [.c 4 (some 2)], body :=
  (.seq
   (.reg none [⟨(some 2), .box (.t 0), none⟩,
     ⟨(some 3), .box (.t 1), none⟩,
     ⟨(some 4), .alloc [(.int .i64 0), (.int .i64 0)], none⟩])
   (.seq
    (.reg none [⟨(some 6), .faddr 1 (.t 2), none⟩,
      ⟨(some 7), .load none (.t 6), none⟩,
      ⟨(some 8), .faddr 1 (.t 3), none⟩,
      ⟨(some 9), .load none (.t 8), none⟩,
      ⟨(some 10), .call 99 [(.t 7), (.t 9)], none⟩,
      ⟨(some 5), .mv (.t 10), none⟩])
    (.seq
     (.reg (some []) [⟨(some 11), .faddr 0 (.t 2), none⟩,
       ⟨(some 12), .load none (.t 11), none⟩,
       ⟨(some 13), .faddr 1 (.t 3), none⟩,
       ⟨(some 14), .load none (.t 13), none⟩,
       ⟨(some 15), .mv (.t 5), none⟩,
       ⟨(some 16), .bin .quo (.t 14) (.t 15), none⟩,
       ⟨(some 17), .bin .mul (.t 12) (.t 16), none⟩,
       ⟨(some 18), .faddr 0 (.t 3), none⟩,
       ⟨(some 19), .load none (.t 18), none⟩,
       ⟨(some 20), .faddr 1 (.t 2), none⟩,
       ⟨(some 21), .load none (.t 20), none⟩,
       ⟨(some 22), .mv (.t 5), none⟩,
       ⟨(some 23), .bin .quo (.t 21) (.t 22), none⟩,
       ⟨(some 24), .bin .mul (.t 19) (.t 23), none⟩,
       ⟨(some 25), .bin .add (.t 17) (.t 24), none⟩,
       ⟨(some 26), .faddr 1 (.t 2), none⟩,
       ⟨(some 27), .load none (.t 26), none⟩,
       ⟨(some 28), .mv (.t 5), none⟩,
       ⟨(some 29), .bin .quo (.t 27) (.t 28), none⟩,
       ⟨(some 30), .faddr 1 (.t 3), none⟩,
       ⟨(some 31), .load none (.t 30), none⟩,
       ⟨(some 32), .bin .mul (.t 29) (.t 31), none⟩,
       ⟨(some 33), .call 73 [(.t 25), (.t 32)], none⟩,
       ⟨none, .store 2 (.t 4) (.t 33), none⟩])
     .ret))) }
theorem f76P : prepF C Try.f76 = some f76A := by kernel_rfl

/-- congou/congouref06.total -/
def f77A : AFunc :=
{ nargs := 1, res := [.t 2], body :=
  (.seq
   (.reg none [⟨(some 2), .mv (.c (.int .i64 0)), none⟩])
   (.seq
    (.reg none [⟨(some 3), .mv (.c (.int .i64 0)), none⟩])
    (.seq
     (.seq
      (.reg none [⟨(some 6), .mv (.t 0), none⟩,
        ⟨(some 7), .len (.t 6), none⟩,
        ⟨(some 8), .mv (.c (.int .i64 0)), none⟩])
      (.block 0
       (.loop
        (.seq
         (.reg none [⟨(some 9), .bin .lss (.t 8) (.t 7), none⟩])
         (.seq
          (.cond (.t 9)
           .skip
           (.exit 0))
          (.seq
           (.block 1
            (.seq
             (.reg none [⟨(some 10), .iaddr 1 (.t 6) (.t 8), none⟩,
               ⟨(some 11), .load none (.t 10), none⟩,
               ⟨(some 5), .mv (.t 11), none⟩])
             (.reg none [⟨(some 12), .mv (.t 3), none⟩,
               ⟨(some 13), .mv (.t 5), none⟩,
               ⟨(some 14), .bin .add (.t 12) (.t 13), none⟩,
               ⟨(some 3), .mv (.t 14), none⟩])))
           (.reg none [⟨(some 15), .bin .add (.t 8) (.c (.int .i64 1)), none⟩,
             ⟨(some 8), .mv (.t 15), none⟩])))))))
     (.seq
      (.reg none [⟨(some 16), .mv (.t 3), none⟩,
        ⟨(some 2), .mv (.t 16), none⟩])
      .ret)))) }
theorem f77P : prepF C Try.f77 = some f77A := by kernel_rfl

/-- slices.Index[[]int,int] -/
def f78A : AFunc :=
{ nargs := 2, res := [.t 4], body :=
  (.seq
   (.reg none [⟨(some 4), .mv (.c (.int .i64 0)), none⟩])
   (.seq
    (.seq
     (.reg none [⟨(some 6), .mv (.t 0), none⟩,
       ⟨(some 7), .len (.t 6), none⟩,
       ⟨(some 8), .mv (.c (.int .i64 0)), none⟩])
     (.block 0
      (.loop
       (.seq
        (.reg none [⟨(some 9), .bin .lss (.t 8) (.t 7), none⟩])
        (.seq
         (.cond (.t 9)
          .skip
          (.exit 0))
         (.seq
          (.block 1
           (.seq
            (.reg none [⟨(some 10), .mv (.t 8), none⟩,
              ⟨(some 5), .mv (.t 10), none⟩])
            (.seq
             (.reg none [⟨(some 11), .mv (.t 1), none⟩,
               ⟨(some 12), .mv (.t 0), none⟩,
               ⟨(some 13), .mv (.t 5), none⟩,
               ⟨(some 14), .iaddr 1 (.t 12) (.t 13), none⟩,
               ⟨(some 15), .load none (.t 14), none⟩,
               ⟨(some 16), .bin .eql (.t 11) (.t 15), none⟩])
             (.cond (.t 16)
              (.seq
               (.reg none [⟨(some 17), .mv (.t 5), none⟩,
                 ⟨(some 4), .mv (.t 17), none⟩])
               .ret)
              .skip))))
          (.reg none [⟨(some 18), .bin .add (.t 8) (.c (.int .i64 1)), none⟩,
            ⟨(some 8), .mv (.t 18), none⟩])))))))
    (.seq
     (.reg none [⟨(some 4), .mv (.c (.int .i64 (-1))), none⟩])
     .ret))) }
theorem f78P : prepF C Try.f78 = some f78A := by kernel_rfl

/-- congou/counts.isSums -/
def f79A : AFunc :=
{ nargs := 1, res := [.t 2], body :=
  (.seq
   (.reg none [⟨(some 2), .mv (.c (.b false)), none⟩])
   (.seq
    (.reg none [⟨(some 3), .mv (.c (.int .i64 0)), none⟩])
    (.seq
     (.seq
      (.reg none [⟨(some 6), .mv (.t 0), none⟩,
        ⟨(some 7), .len (.t 6), none⟩,
        ⟨(some 8), .mv (.c (.int .i64 0)), none⟩])
      (.block 0
       (.loop
        (.seq
         (.reg none [⟨(some 9), .bin .lss (.t 8) (.t 7), none⟩])
         (.seq
          (.cond (.t 9)
           .skip
           (.exit 0))
          (.seq
           (.block 1
            (.seq
             (.reg none [⟨(some 10), .iaddr 1 (.t 6) (.t 8), none⟩,
               ⟨(some 11), .load none (.t 10), none⟩,
               ⟨(some 5), .mv (.t 11), none⟩])
             (.seq
              (.seq
               (.reg none [⟨(some 12), .mv (.t 5), none⟩,
                 ⟨(some 13), .bin .lss (.t 12) (.c (.int .i64 0)), none⟩,
                 ⟨(some 14), .mv (.t 13), none⟩,
                 ⟨(some 15), .mv (.t 5), some (14, false)⟩,
                 ⟨(some 16), .bin .gtr (.t 15) (.c (.int .i64 16)), some (14, false)⟩,
                 ⟨(some 17), .pick (.t 14) (.c (.b true)) (.t 16), none⟩])
               (.cond (.t 17)
                (.seq
                 (.reg none [⟨(some 2), .mv (.c (.b false)), none⟩])
                 .ret)
                .skip))
              (.reg none [⟨(some 18), .mv (.t 3), none⟩,
                ⟨(some 19), .mv (.t 5), none⟩,
                ⟨(some 20), .bin .add (.t 18) (.t 19), none⟩,
                ⟨(some 3), .mv (.t 20), none⟩]))))
           (.reg none [⟨(some 21), .bin .add (.t 8) (.c (.int .i64 1)), none⟩,
             ⟨(some 8), .mv (.t 21), none⟩])))))))
     (.seq
      (.reg none [⟨(some 22), .mv (.t 3), none⟩,
        ⟨(some 23), .bin .leq (.t 22) (.c (.int .i64 16)), none⟩,
        ⟨(some 2), .mv (.t 23), none⟩])
      .ret)))) }
theorem f79P : prepF C Try.f79 = some f79A := by kernel_rfl

/-- (congou/counts.margins).all -/
def f80A : AFunc :=
{ nargs := 2, res := [], body :=
  (.seq
   (.reg none [⟨(some 2), .box (.t 0), none⟩,
     ⟨(some 3), .box (.t 1), none⟩])
   (.seq
    (.reg none [⟨(some 8), .faddr 0 (.t 2), none⟩,
      ⟨(some 9), .load none (.t 8), none⟩,
      ⟨(some 10), .len (.t 9), none⟩,
      ⟨(some 11), .mkslice 1 24 [.nils] (.t 10), none⟩,
      ⟨(some 4), .alloc [.nils], none⟩,
      ⟨none, .store 1 (.t 4) (.t 11), none⟩])
    (.seq
     (.seq
      (.reg none [⟨(some 12), .load none (.t 4), none⟩,
        ⟨(some 13), .len (.t 12), none⟩,
        ⟨(some 14), .mv (.c (.int .i64 0)), none⟩])
      (.block 0
       (.loop
        (.seq
         (.reg none [⟨(some 15), .bin .lss (.t 14) (.t 13), none⟩])
         (.seq
          (.cond (.t 15)
           .skip
           (.exit 0))
          (.seq
           (.block 1
            (.seq
             (.reg none [⟨(some 16), .mv (.t 14), none⟩,
               ⟨(some 5), .mv (.t 16), none⟩])
             (.reg (some []) [⟨(some 17), .load none (.t 4), none⟩,
               ⟨(some 18), .mv (.t 5), none⟩,
               ⟨(some 19), .faddr 1 (.t 2), none⟩,
               ⟨(some 20), .load none (.t 19), none⟩,
               ⟨(some 21), .len (.t 20), none⟩,
               ⟨(some 22), .mkslice 1 8 [(.int .i64 0)] (.t 21), none⟩,
               ⟨(some 23), .iaddr 1 (.t 17) (.t 18), none⟩,
               ⟨none, .store 1 (.t 23) (.t 22), none⟩])))
           (.reg none [⟨(some 24), .bin .add (.t 14) (.c (.int .i64 1)), none⟩,
             ⟨(some 14), .mv (.t 24), none⟩])))))))
     (.seq
      (.reg none [⟨(some 25), .faddr 1 (.t 2), none⟩,
        ⟨(some 26), .load none (.t 25), none⟩,
        ⟨(some 27), .call 56 [(.t 26)], none⟩,
        ⟨(some 6), .alloc [.nils], none⟩,
        ⟨none, .store 1 (.t 6) (.t 27), none⟩])
      (.seq
       (.reg none [⟨(some 7), .alloc [.nilf], none⟩])
       (.seq
        (.reg none [⟨(some 28), .mkfn 100 [] [(.t 2), (.t 6), (.t 3), (.t 4), (.t 7)], none⟩,
          ⟨none, .store 1 (.t 7) (.t 28), none⟩])
        (.reg (some []) [⟨(some 29), .load none (.t 7), none⟩,
          ⟨(some 30), .faddr 0 (.t 2), none⟩,
          ⟨(some 31), .load none (.t 30), none⟩,
          ⟨(some 32), .iaddr 1 (.t 31) (.c (.int .i64 0)), none⟩,
          ⟨(some 33), .load none (.t 32), none⟩,
          ⟨(some 34), .callv (.t 29) [(.c (.int .i64 0)), (.c (.int .i64 0)), (.t 33)], none⟩]))))))) }
theorem f80P : prepF C Try.f80 = some f80A := by kernel_rfl

/-- congou/congouref06.lines -/
def f81A : AFunc :=
{ nargs := 2, res := [.t 4], body :=
  (.seq
   (.reg none [⟨(some 4), .mv (.c .nils), none⟩])
   (.seq
    (.seq
     (.reg none [⟨(some 9), .mv (.t 1), none⟩,
       ⟨(some 10), .len (.t 9), none⟩,
       ⟨(some 11), .bin .eql (.t 10) (.c (.int .i64 0)), none⟩])
     (.cond (.t 11)
      (.seq
       (.seq
        (.reg none [⟨(some 12), .mv (.t 0), none⟩,
          ⟨(some 13), .bin .eql (.t 12) (.c (.int .i64 0)), none⟩])
        (.cond (.t 13)
         (.seq
          (.reg none [⟨(some 14), .bslice [.nils] 1 1 [(0, (.c .nils))], none⟩,
            ⟨(some 4), .mv (.t 14), none⟩])
          .ret)
         .skip))
       (.seq
        (.reg none [⟨(some 4), .mv (.c .nils), none⟩])
        .ret))
      .skip))
    (.seq
     (.reg none [⟨(some 5), .mv (.c .nils), none⟩])
     (.seq
      (.seq
       (.reg none [⟨(some 6), .mv (.c (.int .i64 0)), none⟩])
       (.block 0
        (.loop
         (.seq
          (.seq
           (.reg none [⟨(some 15), .mv (.t 6), none⟩,
             ⟨(some 16), .mv (.t 0), none⟩,
             ⟨(some 17), .mv (.t 1), none⟩,
             ⟨(some 18), .iaddr 1 (.t 17) (.c (.int .i64 0)), none⟩,
             ⟨(some 19), .load none (.t 18), none⟩,
             ⟨(some 20), .mn [(.t 16), (.t 19)], none⟩,
             ⟨(some 21), .bin .leq (.t 15) (.t 20), none⟩])
           (.cond (.t 21)
            .skip
            (.exit 0)))
          (.seq
           (.block 1
            (.seq
             (.reg none [⟨(some 24), .mv (.t 0), none⟩,
               ⟨(some 25), .mv (.t 6), none⟩,
               ⟨(some 26), .bin .sub (.t 24) (.t 25), none⟩,
               ⟨(some 27), .mv (.t 1), none⟩,
               ⟨(some 28), .slice 1 (.t 27) (some (.c (.int .i64 1))) none none, none⟩,
               ⟨(some 29), .call 81 [(.t 26), (.t 28)], none⟩,
               ⟨(some 30), .len (.t 29), none⟩,
               ⟨(some 31), .mv (.c (.int .i64 0)), none⟩])
             (.block 2
              (.loop
               (.seq
                (.reg none [⟨(some 32), .bin .lss (.t 31) (.t 30), none⟩])
                (.seq
                 (.cond (.t 32)
                  .skip
                  (.exit 2))
                 (.seq
                  (.block 3
                   (.seq
                    (.reg none [⟨(some 33), .iaddr 1 (.t 29) (.t 31), none⟩,
                      ⟨(some 34), .load none (.t 33), none⟩,
                      ⟨(some 8), .mv (.t 34), none⟩])
                    (.reg none [⟨(some 35), .mv (.t 5), none⟩,
                      ⟨(some 36), .mv (.t 6), none⟩,
                      ⟨(some 37), .bslice [(.int .i64 0)] 1 1 [(0, (.t 36))], none⟩,
                      ⟨(some 38), .mv (.t 8), none⟩,
                      ⟨(some 39), .append 1 8 (.t 37) (.t 38), none⟩,
                      ⟨(some 40), .bslice [.nils] 1 1 [(0, (.t 39))], none⟩,
                      ⟨(some 41), .append 1 24 (.t 35) (.t 40), none⟩,
                      ⟨(some 5), .mv (.t 41), none⟩])))
                  (.reg none [⟨(some 42), .bin .add (.t 31) (.c (.int .i64 1)), none⟩,
                    ⟨(some 31), .mv (.t 42), none⟩]))))))))
           (.reg none [⟨(some 22), .mv (.t 6), none⟩,
             ⟨(some 23), .bin .add (.t 22) (.c (.int .i64 1)), none⟩,
             ⟨(some 6), .mv (.t 23), none⟩]))))))
      (.seq
       (.reg none [⟨(some 43), .mv (.t 5), none⟩,
         ⟨(some 4), .mv (.t 43), none⟩])
       .ret))))) }
theorem f81P : prepF C Try.f81 = some f81A := by kernel_rfl

/-- (congou/counts.table).family -/
def f82A : AFunc :=
{ nargs := 1, res := [.c 2 (some 2)], body :=
  (.seq
   (.reg none [⟨(some 2), .alloc [.nils, .nils], none⟩])
   (.seq
    (.reg none [⟨(some 6), .mv (.t 0), none⟩,
      ⟨(some 7), .call 71 [(.t 6)], none⟩,
      ⟨(some 5), .mv (.t 7), none⟩,
      ⟨(some 8), .extr (.t 5) 0, none⟩,
      ⟨(some 9), .extr (.t 5) 1, none⟩,
      ⟨(some 3), .mv (.t 8), none⟩,
      ⟨(some 4), .mv (.t 9), none⟩])
    (.seq
     (.reg none [⟨(some 10), .mv (.t 3), none⟩,
       ⟨(some 11), .mv (.t 4), none⟩,
       ⟨(some 12), .build [.nils, .nils] [(0, 1, (.t 10)), (1, 1, (.t 11))], none⟩,
       ⟨none, .store 2 (.t 2) (.t 12), none⟩])
     .ret))) }
theorem f82P : prepF C Try.f82 = some f82A := by kernel_rfl

/-- slices.EqualFunc[[][][]int,[][][]int,[][]int,[][]int] -/
def f83A : AFunc :=
{ nargs := 3, res := [.t 6], body :=
  (.seq
   (.reg none [⟨(some 6), .mv (.c (.b false)), none⟩])
   (.seq
    (.seq
     (.reg none [⟨(some 10), .mv (.t 0), none⟩,
       ⟨(some 11), .len (.t 10), none⟩,
       ⟨(some 12), .mv (.t 1), none⟩,
       ⟨(some 13), .len (.t 12), none⟩,
       ⟨(some 14), .bin .neq (.t 11) (.t 13), none⟩])
     (.cond (.t 14)
      (.seq
       (.reg none [⟨(some 6), .mv (.c (.b false)), none⟩])
       .ret)
      .skip))
    (.seq
     (.seq
      (.reg none [⟨(some 15), .mv (.t 0), none⟩,
        ⟨(some 16), .len (.t 15), none⟩,
        ⟨(some 17), .mv (.c (.int .i64 0)), none⟩])
      (.block 0
       (.loop
        (.seq
         (.reg none [⟨(some 18), .bin .lss (.t 17) (.t 16), none⟩])
         (.seq
          (.cond (.t 18)
           .skip
           (.exit 0))
          (.seq
           (.block 1
            (.seq
             (.reg none [⟨(some 19), .mv (.t 17), none⟩,
               ⟨(some 20), .iaddr 1 (.t 15) (.t 17), none⟩,
               ⟨(some 21), .load none (.t 20), none⟩,
               ⟨(some 7), .mv (.t 19), none⟩,
               ⟨(some 8), .mv (.t 21), none⟩])
             (.seq
              (.reg none [⟨(some 22), .mv (.t 1), none⟩,
                ⟨(some 23), .mv (.t 7), none⟩,
                ⟨(some 24), .iaddr 1 (.t 22) (.t 23), none⟩,
                ⟨(some 25), .load none (.t 24), none⟩,
                ⟨(some 9), .mv (.t 25), none⟩])
              (.seq
               (.reg none [⟨(some 26), .mv (.t 2), none⟩,
                 ⟨(some 27), .mv (.t 8), none⟩,
                 ⟨(some 28), .mv (.t 9), none⟩,
                 ⟨(some 29), .callv (.t 26) [(.t 27), (.t 28)], none⟩,
                 ⟨(some 30), .un .not (.t 29), none⟩])
               (.cond (.t 30)
                (.seq
                 (.reg none [⟨(some 6), .mv (.c (.b false)), none⟩])
                 .ret)
                .skip)))))
           (.reg none [⟨(some 31), .bin .add (.t 17) (.c (.int .i64 1)), none⟩,
             ⟨(some 17), .mv (.t 31), none⟩])))))))
     (.seq
      (.reg none [⟨(some 6), .mv (.c (.b true)), none⟩])
      .ret)))) }
theorem f83P : prepF C Try.f83 = some f83A := by kernel_rfl

/-- (congou/counts.table).clone -/
def f84A : AFunc :=
{ nargs := 1, res := [.t 2], body :=
  (.seq
   (.reg none [⟨(some 2), .mv (.c .nils), none⟩])
   (.seq
    (.reg none [⟨(some 3), .mv (.c .nils), none⟩])
    (.seq
     (.seq
      (.reg none [⟨(some 6), .mv (.t 0), none⟩,
        ⟨(some 7), .len (.t 6), none⟩,
        ⟨(some 8), .mv (.c (.int .i64 0)), none⟩])
      (.block 0
       (.loop
        (.seq
         (.reg none [⟨(some 9), .bin .lss (.t 8) (.t 7), none⟩])
         (.seq
          (.cond (.t 9)
           .skip
           (.exit 0))
          (.seq
           (.block 1
            (.seq
             (.reg none [⟨(some 10), .iaddr 1 (.t 6) (.t 8), none⟩,
               ⟨(some 11), .load none (.t 10), none⟩,
               ⟨(some 5), .mv (.t 11), none⟩])
             (.reg none [⟨(some 12), .mv (.t 3), none⟩,
               ⟨(some 13), .mv (.t 5), none⟩,
               ⟨(some 14), .call 56 [(.t 13)], none⟩,
               ⟨(some 15), .bslice [.nils] 1 1 [(0, (.t 14))], none⟩,
               ⟨(some 16), .append 1 24 (.t 12) (.t 15), none⟩,
               ⟨(some 3), .mv (.t 16), none⟩])))
           (.reg none [⟨(some 17), .bin .add (.t 8) (.c (.int .i64 1)), none⟩,
             ⟨(some 8), .mv (.t 17), none⟩])))))))
     (.seq
      (.reg none [⟨(some 18), .mv (.t 3), none⟩,
        ⟨(some 2), .mv (.t 18), none⟩])
      .ret)))) }
theorem f84P : prepF C Try.f84 = some f84A := by kernel_rfl

/-- cmp.Compare[int] -/
def f85A : AFunc :=
{ nargs := 2, res := [.t 4], body :=
  (.seq
   (.reg none [⟨(some 4), .mv (.c (.int .i64 0)), none⟩])
   (.seq
    (.reg none [⟨(some 7), .mv (.t 0), none⟩,
      ⟨(some 8), .call 102 [(.t 7)], none⟩,
      ⟨(some 5), .mv (.t 8), none⟩])
    (.seq
     (.reg none [⟨(some 9), .mv (.t 1), none⟩,
       ⟨(some 10), .call 102 [(.t 9)], none⟩,
       ⟨(some 6), .mv (.t 10), none⟩])
     (.seq
      (.seq
       (.reg none [⟨(some 11), .mv (.t 5), none⟩])
       (.cond (.t 11)
        (.seq
         (.seq
          (.reg none [⟨(some 12), .mv (.t 6), none⟩])
          (.cond (.t 12)
           (.seq
            (.reg none [⟨(some 4), .mv (.c (.int .i64 0)), none⟩])
            .ret)
           .skip))
         (.seq
          (.reg none [⟨(some 4), .mv (.c (.int .i64 (-1))), none⟩])
          .ret))
        .skip))
      (.seq
       (.seq
        (.reg none [⟨(some 13), .mv (.t 6), none⟩])
        (.cond (.t 13)
         (.seq
          (.reg none [⟨(some 4), .mv (.c (.int .i64 1)), none⟩])
          .ret)
         .skip))
       (.seq
        (.seq
         (.reg none [⟨(some 14), .mv (.t 0), none⟩,
           ⟨(some 15), .mv (.t 1), none⟩,
           ⟨(some 16), .bin .lss (.t 14) (.t 15), none⟩])
         (.cond (.t 16)
          (.seq
           (.reg none [⟨(some 4), .mv (.c (.int .i64 (-1))), none⟩])
           .ret)
          .skip))
        (.seq
         (.seq
          (.reg none [⟨(some 17), .mv (.t 0), none⟩,
            ⟨(some 18), .mv (.t 1), none⟩,
            ⟨(some 19), .bin .gtr (.t 17) (.t 18), none⟩])
          (.cond (.t 19)
           (.seq
            (.reg none [⟨(some 4), .mv (.c (.int .i64 1)), none⟩])
            .ret)
           .skip))
         (.seq
          (.reg none [⟨(some 4), .mv (.c (.int .i64 0)), none⟩])
          .ret)))))))) }
theorem f85P : prepF C Try.f85 = some f85A := by kernel_rfl

/-- (congou/counts.table).weight -/
def f86A : AFunc :=
{ nargs := 1, res := [.t 2], body :=
  (.seq
   (.reg none [⟨(some 2), .mv (.c (.int .i64 0)), none⟩])
   (.seq
    (.reg none [⟨(some 3), .mv (.c (.int .i64 1)), none⟩])
    (.seq
     (.seq
      (.reg none [⟨(some 6), .mv (.t 0), none⟩,
        ⟨(some 7), .len (.t 6), none⟩,
        ⟨(some 8), .mv (.c (.int .i64 0)), none⟩])
      (.block 0
       (.loop
        (.seq
         (.reg none [⟨(some 9), .bin .lss (.t 8) (.t 7), none⟩])
         (.seq
          (.cond (.t 9)
           .skip
           (.exit 0))
          (.seq
           (.block 1
            (.seq
             (.reg none [⟨(some 10), .iaddr 1 (.t 6) (.t 8), none⟩,
               ⟨(some 11), .load none (.t 10), none⟩,
               ⟨(some 5), .mv (.t 11), none⟩])
             (.reg none [⟨(some 12), .mv (.t 3), none⟩,
               ⟨(some 13), .mv (.t 5), none⟩,
               ⟨(some 14), .call 87 [(.t 13)], none⟩,
               ⟨(some 15), .bin .mul (.t 12) (.t 14), none⟩,
               ⟨(some 3), .mv (.t 15), none⟩])))
           (.reg none [⟨(some 16), .bin .add (.t 8) (.c (.int .i64 1)), none⟩,
             ⟨(some 8), .mv (.t 16), none⟩])))))))
     (.seq
      (.reg none [⟨(some 17), .mv (.t 3), none⟩,
        ⟨(some 2), .mv (.t 17), none⟩])
      .ret)))) }
theorem f86P : prepF C Try.f86 = some f86A := by kernel_rfl

/-- congou/counts.choose -/
def f87A : AFunc :=
{ nargs := 1, res := [.t 2], body :=
  (.seq
   (.reg none [⟨(some 2), .mv (.c (.int .i64 0)), none⟩])
   (.seq
    (.reg none [⟨(some 3), .mv (.c (.int .i64 1)), none⟩,
      ⟨(some 4), .mv (.c (.int .i64 0)), none⟩])
    (.seq
     (.seq
      (.reg none [⟨(some 8), .mv (.t 0), none⟩,
        ⟨(some 9), .len (.t 8), none⟩,
        ⟨(some 10), .mv (.c (.int .i64 0)), none⟩])
      (.block 0
       (.loop
        (.seq
         (.reg none [⟨(some 11), .bin .lss (.t 10) (.t 9), none⟩])
         (.seq
          (.cond (.t 11)
           .skip
           (.exit 0))
          (.seq
           (.block 1
            (.seq
             (.reg none [⟨(some 12), .iaddr 1 (.t 8) (.t 10), none⟩,
               ⟨(some 13), .load none (.t 12), none⟩,
               ⟨(some 6), .mv (.t 13), none⟩])
             (.seq
              (.reg none [⟨(some 7), .mv (.c (.int .i64 1)), none⟩])
              (.block 2
               (.loop
                (.seq
                 (.seq
                  (.reg none [⟨(some 14), .mv (.t 7), none⟩,
                    ⟨(some 15), .mv (.t 6), none⟩,
                    ⟨(some 16), .bin .leq (.t 14) (.t 15), none⟩])
                  (.cond (.t 16)
                   .skip
                   (.exit 2)))
                 (.seq
                  (.block 3
                   (.seq
                    (.reg none [⟨(some 19), .mv (.t 4), none⟩,
                      ⟨(some 20), .bin .add (.t 19) (.c (.int .i64 1)), none⟩,
                      ⟨(some 4), .mv (.t 20), none⟩])
                    (.reg none [⟨(some 21), .mv (.t 3), none⟩,
                      ⟨(some 22), .mv (.t 4), none⟩,
                      ⟨(some 23), .bin .mul (.t 21) (.t 22), none⟩,
                      ⟨(some 24), .mv (.t 7), none⟩,
                      ⟨(some 25), .bin .quo (.t 23) (.t 24), none⟩,
                      ⟨(some 3), .mv (.t 25), none⟩])))
                  (.reg none [⟨(some 17), .mv (.t 7), none⟩,
                    ⟨(some 18), .bin .add (.t 17) (.c (.int .i64 1)), none⟩,
                    ⟨(some 7), .mv (.t 18), none⟩]))))))))
           (.reg none [⟨(some 26), .bin .add (.t 10) (.c (.int .i64 1)), none⟩,
             ⟨(some 10), .mv (.t 26), none⟩])))))))
     (.seq
      (.reg none [⟨(some 27), .mv (.t 3), none⟩,
        ⟨(some 2), .mv (.t 27), none⟩])
      .ret)))) }
theorem f87P : prepF C Try.f87 = some f87A := by kernel_rfl

/-- congou/congouref06.ways -/
def f88A : AFunc :=
{ nargs := 1, res := [.t 2], body :=
  (.seq
   (.reg none [⟨(some 2), .mv (.c (.int .i64 0)), none⟩])
   (.seq
    (.reg none [⟨(some 3), .mv (.c (.int .i64 1)), none⟩])
    (.seq
     (.seq
      (.reg none [⟨(some 6), .mv (.t 0), none⟩,
        ⟨(some 7), .len (.t 6), none⟩,
        ⟨(some 8), .mv (.c (.int .i64 0)), none⟩])
      (.block 0
       (.loop
        (.seq
         (.reg none [⟨(some 9), .bin .lss (.t 8) (.t 7), none⟩])
         (.seq
          (.cond (.t 9)
           .skip
           (.exit 0))
          (.seq
           (.block 1
            (.seq
             (.reg none [⟨(some 10), .iaddr 1 (.t 6) (.t 8), none⟩,
               ⟨(some 11), .load none (.t 10), none⟩,
               ⟨(some 5), .mv (.t 11), none⟩])
             (.reg none [⟨(some 12), .mv (.t 3), none⟩,
               ⟨(some 13), .mv (.t 5), none⟩,
               ⟨(some 14), .call 89 [(.t 13)], none⟩,
               ⟨(some 15), .bin .mul (.t 12) (.t 14), none⟩,
               ⟨(some 3), .mv (.t 15), none⟩])))
           (.reg none [⟨(some 16), .bin .add (.t 8) (.c (.int .i64 1)), none⟩,
             ⟨(some 8), .mv (.t 16), none⟩])))))))
     (.seq
      (.reg none [⟨(some 17), .mv (.t 3), none⟩,
        ⟨(some 2), .mv (.t 17), none⟩])
      .ret)))) }
theorem f88P : prepF C Try.f88 = some f88A := by kernel_rfl

/-- congou/congouref06.orders -/
def f89A : AFunc :=
{ nargs := 1, res := [.t 2], body :=
  (.seq
   (.reg none [⟨(some 2), .mv (.c (.int .i64 0)), none⟩])
   (.seq
    (.reg none [⟨(some 3), .mv (.c (.int .i64 1)), none⟩,
      ⟨(some 4), .mv (.c (.int .i64 0)), none⟩])
    (.seq
     (.seq
      (.reg none [⟨(some 8), .mv (.t 0), none⟩,
        ⟨(some 9), .len (.t 8), none⟩,
        ⟨(some 10), .mv (.c (.int .i64 0)), none⟩])
      (.block 0
       (.loop
        (.seq
         (.reg none [⟨(some 11), .bin .lss (.t 10) (.t 9), none⟩])
         (.seq
          (.cond (.t 11)
           .skip
           (.exit 0))
          (.seq
           (.block 1
            (.seq
             (.reg none [⟨(some 12), .iaddr 1 (.t 8) (.t 10), none⟩,
               ⟨(some 13), .load none (.t 12), none⟩,
               ⟨(some 6), .mv (.t 13), none⟩])
             (.seq
              (.reg none [⟨(some 14), .mv (.t 6), none⟩,
                ⟨(some 15), .mv (.c (.int .i64 0)), none⟩])
              (.block 2
               (.loop
                (.seq
                 (.reg none [⟨(some 16), .bin .lss (.t 15) (.t 14), none⟩])
                 (.seq
                  (.cond (.t 16)
                   .skip
                   (.exit 2))
                  (.seq
                   (.block 3
                    (.seq
                     (.reg none [⟨(some 17), .mv (.t 15), none⟩,
                       ⟨(some 7), .mv (.t 17), none⟩])
                     (.seq
                      (.reg none [⟨(some 18), .mv (.t 4), none⟩,
                        ⟨(some 19), .bin .add (.t 18) (.c (.int .i64 1)), none⟩,
                        ⟨(some 4), .mv (.t 19), none⟩])
                      (.reg none [⟨(some 20), .mv (.t 3), none⟩,
                        ⟨(some 21), .mv (.t 4), none⟩,
                        ⟨(some 22), .bin .mul (.t 20) (.t 21), none⟩,
                        ⟨(some 23), .mv (.t 7), none⟩,
                        ⟨(some 24), .bin .add (.t 23) (.c (.int .i64 1)), none⟩,
                        ⟨(some 25), .bin .quo (.t 22) (.t 24), none⟩,
                        ⟨(some 3), .mv (.t 25), none⟩]))))
                   (.reg none [⟨(some 26), .bin .add (.t 15) (.c (.int .i64 1)), none⟩,
                     ⟨(some 15), .mv (.t 26), none⟩])))))))))
           (.reg none [⟨(some 27), .bin .add (.t 10) (.c (.int .i64 1)), none⟩,
             ⟨(some 10), .mv (.t 27), none⟩])))))))
     (.seq
      (.reg none [⟨(some 28), .mv (.t 3), none⟩,
        ⟨(some 2), .mv (.t 28), none⟩])
      .ret)))) }
theorem f89P : prepF C Try.f89 = some f89A := by kernel_rfl

/-- congou/counts.both -/
def f90A : AFunc :=
{ nargs := 2, res := [.t 4], body :=
  (.seq
   (.reg none [⟨(some 4), .mv (.c (.b false)), none⟩])
   (.seq
    (.reg none [⟨(some 7), .mv (.t 0), none⟩,
      ⟨(some 8), .call 82 [(.t 7)], none⟩,
      ⟨(some 9), .mv (.t 1), none⟩,
      ⟨(some 10), .call 82 [(.t 9)], none⟩,
      ⟨(some 5), .alloc [.nils, .nils], none⟩,
      ⟨(some 6), .alloc [.nils, .nils], none⟩,
      ⟨none, .store 2 (.t 5) (.t 8), none⟩,
      ⟨none, .store 2 (.t 6) (.t 10), none⟩])
    (.seq
     (.reg none [⟨(some 11), .faddr 0 (.t 5), none⟩,
       ⟨(some 12), .load none (.t 11), none⟩,
       ⟨(some 13), .faddr 0 (.t 6), none⟩,
       ⟨(some 14), .load none (.t 13), none⟩,
       ⟨(some 15), .call 25 [(.t 12), (.t 14)], none⟩,
       ⟨(some 16), .mv (.t 15), none⟩,
       ⟨(some 17), .faddr 1 (.t 5), some (16, true)⟩,
       ⟨(some 18), .load none (.t 17), some (16, true)⟩,
       ⟨(some 19), .faddr 1 (.t 6), some (16, true)⟩,
       ⟨(some 20), .load none (.t 19), some (16, true)⟩,
       ⟨(some 21), .call 25 [(.t 18), (.t 20)], some (16, true)⟩,
       ⟨(some 22), .pick (.t 16) (.t 21) (.c (.b false)), none⟩,
       ⟨(some 4), .mv (.t 22), none⟩])
     .ret))) }
theorem f90P : prepF C Try.f90 = some f90A := by kernel_rfl

/-- (congou/counts.table).key -/
def f91A : AFunc :=
{ nargs := 1, res := [.c 2 (some 9)], body :=
  (.seq
   (.reg none [⟨(some 2), .alloc [(.int .i64 0), (.int .i64 0), (.int .i64 0), (.int .i64 0), (.int .i64 0), (.int .i64 0), (.int .i64 0), (.int .i64 0), (.int .i64 0)], none⟩])
   (.seq
    (.reg none [⟨(some 3), .alloc [(.int .i64 0), (.int .i64 0), (.int .i64 0), (.int .i64 0), (.int .i64 0), (.int .i64 0), (.int .i64 0), (.int .i64 0), (.int .i64 0)], none⟩])
    (.seq
     (.seq
      (.reg none [⟨(some 6), .mv (.t 0), none⟩,
        ⟨(some 7), .len (.t 6), none⟩,
        ⟨(some 8), .mv (.c (.int .i64 0)), none⟩])
      (.block 0
       (.loop
        (.seq
         (.reg none [⟨(some 9), .bin .lss (.t 8) (.t 7), none⟩])
         (.seq
          (.cond (.t 9)
           .skip
           (.exit 0))
          (.seq
           (.block 1
            (.seq
             (.reg none [⟨(some 10), .mv (.t 8), none⟩,
               ⟨(some 11), .iaddr 1 (.t 6) (.t 8), none⟩,
               ⟨(some 12), .load none (.t 11), none⟩,
               ⟨(some 4), .mv (.t 10), none⟩,
               ⟨(some 5), .mv (.t 12), none⟩])
             (.reg none [⟨(some 13), .mv (.t 4), none⟩,
               ⟨(some 14), .bin .mul (.c (.int .i64 3)) (.t 13), none⟩,
               ⟨(some 15), .slarr 9 1 (.t 3) (some (.t 14)) none, none⟩,
               ⟨(some 16), .mv (.t 5), none⟩,
               ⟨(some 17), .copy 1 (.t 15) (.t 16), none⟩])))
           (.reg none [⟨(some 18), .bin .add (.t 8) (.c (.int .i64 1)), none⟩,
             ⟨(some 8), .mv (.t 18), none⟩])))))))
     (.seq
      (.reg none [⟨(some 19), .load (some 9) (.t 3), none⟩,
        ⟨none, .store 9 (.t 2) (.t 19), none⟩])
      .ret)))) }
theorem f91P : prepF C Try.f91 = some f91A := by kernel_rfl

/-- congou/counts.compare -/
def f92A : AFunc :=
{ nargs := 2, res := [.t 4], body :=
  (.seq
   (.reg none [⟨(some 4), .mv (.c (.int .i64 0)), none⟩])
   (.seq
    (.reg none [⟨(some 5), .mv (.t 0), none⟩,
      ⟨(some 6), .mv (.t 1), none⟩,
      ⟨(some 7), .call 57 [(.t 5), (.t 6), (.c (.fn 59 [] []))], none⟩,
      ⟨(some 4), .mv (.t 7), none⟩])
    .ret)) }
theorem f92P : prepF C Try.f92 = some f92A := by kernel_rfl

/-- (congou/counts.table).near -/
def f93A : AFunc :=
{ nargs := 1, res := [.t 2], body :=
  (.seq
   (.reg none [⟨(some 2), .mv (.c .nils), none⟩])
   (.seq
    (.reg none [⟨(some 3), .mv (.c .nils), none⟩])
    (.seq
     (.seq
      (.reg none [⟨(some 10), .mv (.t 0), none⟩,
        ⟨(some 11), .len (.t 10), none⟩,
        ⟨(some 12), .mv (.c (.int .i64 0)), none⟩])
      (.block 0
       (.loop
        (.seq
         (.reg none [⟨(some 13), .bin .lss (.t 12) (.t 11), none⟩])
         (.seq
          (.cond (.t 13)
           .skip
           (.exit 0))
          (.seq
           (.block 1
            (.seq
             (.reg none [⟨(some 14), .mv (.t 12), none⟩,
               ⟨(some 4), .mv (.t 14), none⟩])
             (.seq
              (.reg none [⟨(some 15), .mv (.t 0), none⟩,
                ⟨(some 16), .len (.t 15), none⟩,
                ⟨(some 17), .mv (.c (.int .i64 0)), none⟩])
              (.block 2
               (.loop
                (.seq
                 (.reg none [⟨(some 18), .bin .lss (.t 17) (.t 16), none⟩])
                 (.seq
                  (.cond (.t 18)
                   .skip
                   (.exit 2))
                  (.seq
                   (.block 3
                    (.seq
                     (.reg none [⟨(some 19), .mv (.t 17), none⟩,
                       ⟨(some 5), .mv (.t 19), none⟩])
                     (.seq
                      (.reg none [⟨(some 20), .mv (.t 0), none⟩,
                        ⟨(some 21), .iaddr 1 (.t 20) (.c (.int .i64 0)), none⟩,
                        ⟨(some 22), .load none (.t 21), none⟩,
                        ⟨(some 23), .len (.t 22), none⟩,
                        ⟨(some 24), .mv (.c (.int .i64 0)), none⟩])
                      (.block 4
                       (.loop
                        (.seq
                         (.reg none [⟨(some 25), .bin .lss (.t 24) (.t 23), none⟩])
                         (.seq
                          (.cond (.t 25)
                           .skip
                           (.exit 4))
                          (.seq
                           (.block 5
                            (.seq
                             (.reg none [⟨(some 26), .mv (.t 24), none⟩,
                               ⟨(some 6), .mv (.t 26), none⟩])
                             (.seq
                              (.reg none [⟨(some 27), .mv (.t 0), none⟩,
                                ⟨(some 28), .iaddr 1 (.t 27) (.c (.int .i64 0)), none⟩,
                                ⟨(some 29), .load none (.t 28), none⟩,
                                ⟨(some 30), .len (.t 29), none⟩,
                                ⟨(some 31), .mv (.c (.int .i64 0)), none⟩])
                              (.block 6
                               (.loop
                                (.seq
                                 (.reg none [⟨(some 32), .bin .lss (.t 31) (.t 30), none⟩])
                                 (.seq
                                  (.cond (.t 32)
                                   .skip
                                   (.exit 6))
                                  (.seq
                                   (.block 7
                                    (.seq
                                     (.reg none [⟨(some 33), .mv (.t 31), none⟩,
                                       ⟨(some 7), .mv (.t 33), none⟩])
                                     (.seq
                                      (.seq
                                       (.reg none [⟨(some 34), .mv (.t 4), none⟩,
                                         ⟨(some 35), .mv (.t 5), none⟩,
                                         ⟨(some 36), .bin .eql (.t 34) (.t 35), none⟩,
                                         ⟨(some 37), .mv (.t 36), none⟩,
                                         ⟨(some 38), .mv (.t 6), some (37, false)⟩,
                                         ⟨(some 39), .mv (.t 7), some (37, false)⟩,
                                         ⟨(some 40), .bin .eql (.t 38) (.t 39), some (37, false)⟩,
                                         ⟨(some 41), .pick (.t 37) (.c (.b true)) (.t 40), none⟩])
                                       (.cond (.t 41)
                                        (.exit 7)
                                        .skip))
                                      (.seq
                                       (.reg none [⟨(some 43), .mv (.t 0), none⟩,
                                         ⟨(some 44), .mv (.t 4), none⟩,
                                         ⟨(some 45), .mv (.t 5), none⟩,
                                         ⟨(some 46), .mv (.t 6), none⟩,
                                         ⟨(some 47), .mv (.t 7), none⟩,
                                         ⟨(some 48), .call 74 [(.t 43), (.t 44), (.t 45), (.t 46), (.t 47)], none⟩,
                                         ⟨(some 42), .mv (.t 48), none⟩,
                                         ⟨(some 49), .extr (.t 42) 0, none⟩,
                                         ⟨(some 50), .extr (.t 42) 1, none⟩,
                                         ⟨(some 8), .mv (.t 49), none⟩,
                                         ⟨(some 9), .mv (.t 50), none⟩])
                                       (.seq
                                        (.reg none [⟨(some 51), .mv (.t 9), none⟩])
                                        (.cond (.t 51)
                                         (.reg none [⟨(some 52), .mv (.t 3), none⟩,
                                           ⟨(some 53), .mv (.t 8), none⟩,
                                           ⟨(some 54), .bslice [.nils] 1 1 [(0, (.t 53))], none⟩,
                                           ⟨(some 55), .append 1 24 (.t 52) (.t 54), none⟩,
                                           ⟨(some 3), .mv (.t 55), none⟩])
                                         .skip))))))
                                   (.reg none [⟨(some 56), .bin .add (.t 31) (.c (.int .i64 1)), none⟩,
                                     ⟨(some 31), .mv (.t 56), none⟩])))))))))
                           (.reg none [⟨(some 57), .bin .add (.t 24) (.c (.int .i64 1)), none⟩,
                             ⟨(some 24), .mv (.t 57), none⟩])))))))))
                   (.reg none [⟨(some 58), .bin .add (.t 17) (.c (.int .i64 1)), none⟩,
                     ⟨(some 17), .mv (.t 58), none⟩])))))))))
           (.reg none [⟨(some 59), .bin .add (.t 12) (.c (.int .i64 1)), none⟩,
             ⟨(some 12), .mv (.t 59), none⟩])))))))
     (.seq
      (.reg none [⟨(some 60), .mv (.t 3), none⟩,
        ⟨(some 2), .mv (.t 60), none⟩])
      .ret)))) }
theorem f93P : prepF C Try.f93 = some f93A := by kernel_rfl

/-- slices.ContainsFunc[[]congou/counts.table,congou/counts.table] -/
def f94A : AFunc :=
{ nargs := 2, res := [.t 4], body :=
  (.seq
   (.reg none [⟨(some 4), .mv (.c (.b false)), none⟩])
   (.seq
    (.reg none [⟨(some 5), .mv (.t 0), none⟩,
      ⟨(some 6), .mv (.t 1), none⟩,
      ⟨(some 7), .call 103 [(.t 5), (.t 6)], none⟩,
      ⟨(some 8), .bin .geq (.t 7) (.c (.int .i64 0)), none⟩,
      ⟨(some 4), .mv (.t 8), none⟩])
    .ret)) }
theorem f94P : prepF C Try.f94 = some f94A := by kernel_rfl

/-- congou/counts.CheckPath$1 -/
def f95A : AFunc :=
{ nargs := 2, res := [.t 3], body :=
  (.seq
   (.reg none [⟨(some 3), .mv (.c (.b false)), none⟩])
   (.seq
    (.reg none [⟨(some 4), .load none (.t 1), none⟩,
      ⟨(some 5), .mv (.t 0), none⟩,
      ⟨(some 6), .call 92 [(.t 4), (.t 5)], none⟩,
      ⟨(some 7), .bin .eql (.t 6) (.c (.int .i64 0)), none⟩,
      ⟨(some 3), .mv (.t 7), none⟩])
    .ret)) }
theorem f95P : prepF C Try.f95 = some f95A := by kernel_rfl

/-- congou/congouref06.in -/
def f96A : AFunc :=
{ nargs := 2, res := [.t 4], body :=
  (.seq
   (.reg none [⟨(some 4), .mv (.c (.b false)), none⟩])
   (.seq
    (.seq
     (.reg none [⟨(some 7), .mv (.t 0), none⟩,
       ⟨(some 8), .len (.t 7), none⟩,
       ⟨(some 9), .mv (.c (.int .i64 0)), none⟩])
     (.block 0
      (.loop
       (.seq
        (.reg none [⟨(some 10), .bin .lss (.t 9) (.t 8), none⟩])
        (.seq
         (.cond (.t 10)
          .skip
          (.exit 0))
         (.seq
          (.block 1
           (.seq
            (.reg none [⟨(some 11), .iaddr 1 (.t 7) (.t 9), none⟩,
              ⟨(some 12), .load none (.t 11), none⟩,
              ⟨(some 6), .mv (.t 12), none⟩])
            (.seq
             (.reg none [⟨(some 13), .mv (.t 6), none⟩,
               ⟨(some 14), .mv (.t 1), none⟩,
               ⟨(some 15), .call 26 [(.t 13), (.t 14)], none⟩])
             (.cond (.t 15)
              (.seq
               (.reg none [⟨(some 4), .mv (.c (.b true)), none⟩])
               .ret)
              .skip))))
          (.reg none [⟨(some 16), .bin .add (.t 9) (.c (.int .i64 1)), none⟩,
            ⟨(some 9), .mv (.t 16), none⟩])))))))
    (.seq
     (.reg none [⟨(some 4), .mv (.c (.b false)), none⟩])
     .ret))) }
theorem f96P : prepF C Try.f96 = some f96A := by kernel_rfl

/-- congou/congouref06.next -/
def f97A : AFunc :=
{ nargs := 1, res := [.t 2], body :=
  (.seq
   (.reg none [⟨(some 2), .mv (.c .nils), none⟩])
   (.seq
    (.reg none [⟨(some 3), .mv (.c .nils), none⟩])
    (.seq
     (.seq
      (.reg none [⟨(some 10), .mv (.t 0), none⟩,
        ⟨(some 11), .len (.t 10), none⟩,
        ⟨(some 12), .mv (.c (.int .i64 0)), none⟩])
      (.block 0
       (.loop
        (.seq
         (.reg none [⟨(some 13), .bin .lss (.t 12) (.t 11), none⟩])
         (.seq
          (.cond (.t 13)
           .skip
           (.exit 0))
          (.seq
           (.block 1
            (.seq
             (.reg none [⟨(some 14), .mv (.t 12), none⟩,
               ⟨(some 4), .mv (.t 14), none⟩])
             (.seq
              (.reg none [⟨(some 15), .mv (.t 0), none⟩,
                ⟨(some 16), .len (.t 15), none⟩,
                ⟨(some 17), .mv (.c (.int .i64 0)), none⟩])
              (.block 2
               (.loop
                (.seq
                 (.reg none [⟨(some 18), .bin .lss (.t 17) (.t 16), none⟩])
                 (.seq
                  (.cond (.t 18)
                   .skip
                   (.exit 2))
                  (.seq
                   (.block 3
                    (.seq
                     (.reg none [⟨(some 19), .mv (.t 17), none⟩,
                       ⟨(some 5), .mv (.t 19), none⟩])
                     (.seq
                      (.reg none [⟨(some 20), .mv (.t 0), none⟩,
                        ⟨(some 21), .iaddr 1 (.t 20) (.c (.int .i64 0)), none⟩,
                        ⟨(some 22), .load none (.t 21), none⟩,
                        ⟨(some 23), .len (.t 22), none⟩,
                        ⟨(some 24), .mv (.c (.int .i64 0)), none⟩])
                      (.block 4
                       (.loop
                        (.seq
                         (.reg none [⟨(some 25), .bin .lss (.t 24) (.t 23), none⟩])
                         (.seq
                          (.cond (.t 25)
                           .skip
                           (.exit 4))
                          (.seq
                           (.block 5
                            (.seq
                             (.reg none [⟨(some 26), .mv (.t 24), none⟩,
                               ⟨(some 6), .mv (.t 26), none⟩])
                             (.seq
                              (.reg none [⟨(some 27), .mv (.t 0), none⟩,
                                ⟨(some 28), .iaddr 1 (.t 27) (.c (.int .i64 0)), none⟩,
                                ⟨(some 29), .load none (.t 28), none⟩,
                                ⟨(some 30), .len (.t 29), none⟩,
                                ⟨(some 31), .mv (.c (.int .i64 0)), none⟩])
                              (.block 6
                               (.loop
                                (.seq
                                 (.reg none [⟨(some 32), .bin .lss (.t 31) (.t 30), none⟩])
                                 (.seq
                                  (.cond (.t 32)
                                   .skip
                                   (.exit 6))
                                  (.seq
                                   (.block 7
                                    (.seq
                                     (.reg none [⟨(some 33), .mv (.t 31), none⟩,
                                       ⟨(some 7), .mv (.t 33), none⟩])
                                     (.seq
                                      (.reg none [⟨(some 34), .mv (.t 0), none⟩,
                                        ⟨(some 35), .mv (.t 4), none⟩,
                                        ⟨(some 36), .mv (.t 5), none⟩,
                                        ⟨(some 37), .mv (.t 6), none⟩,
                                        ⟨(some 38), .mv (.t 7), none⟩,
                                        ⟨(some 39), .call 33 [(.t 34), (.t 35), (.t 36), (.t 37), (.t 38)], none⟩])
                                      (.cond (.t 39)
                                       (.seq
                                        (.reg none [⟨(some 41), .mv (.t 0), none⟩,
                                          ⟨(some 42), .mv (.t 4), none⟩,
                                          ⟨(some 43), .mv (.t 5), none⟩,
                                          ⟨(some 44), .mv (.t 6), none⟩,
                                          ⟨(some 45), .mv (.t 7), none⟩,
                                          ⟨(some 46), .call 34 [(.t 41), (.t 42), (.t 43), (.t 44), (.t 45)], none⟩,
                                          ⟨(some 40), .mv (.t 46), none⟩,
                                          ⟨(some 47), .extr (.t 40) 0, none⟩,
                                          ⟨(some 48), .extr (.t 40) 1, none⟩,
                                          ⟨(some 8), .mv (.t 47), none⟩,
                                          ⟨(some 9), .mv (.t 48), none⟩])
                                        (.seq
                                         (.reg none [⟨(some 49), .mv (.t 9), none⟩,
                                           ⟨(some 50), .bin .eql (.t 49) (.c (.int .i64 0)), none⟩])
                                         (.cond (.t 50)
                                          (.reg none [⟨(some 51), .mv (.t 3), none⟩,
                                            ⟨(some 52), .mv (.t 8), none⟩,
                                            ⟨(some 53), .bslice [.nils] 1 1 [(0, (.t 52))], none⟩,
                                            ⟨(some 54), .append 1 24 (.t 51) (.t 53), none⟩,
                                            ⟨(some 3), .mv (.t 54), none⟩])
                                          .skip)))
                                       .skip))))
                                   (.reg none [⟨(some 55), .bin .add (.t 31) (.c (.int .i64 1)), none⟩,
                                     ⟨(some 31), .mv (.t 55), none⟩])))))))))
                           (.reg none [⟨(some 56), .bin .add (.t 24) (.c (.int .i64 1)), none⟩,
                             ⟨(some 24), .mv (.t 56), none⟩])))))))))
                   (.reg none [⟨(some 57), .bin .add (.t 17) (.c (.int .i64 1)), none⟩,
                     ⟨(some 17), .mv (.t 57), none⟩])))))))))
           (.reg none [⟨(some 58), .bin .add (.t 12) (.c (.int .i64 1)), none⟩,
             ⟨(some 12), .mv (.t 58), none⟩])))))))
     (.seq
      (.reg none [⟨(some 59), .mv (.t 3), none⟩,
        ⟨(some 2), .mv (.t 59), none⟩])
      .ret)))) }
theorem f97P : prepF C Try.f97 = some f97A := by kernel_rfl

/-- slices.IndexFunc[[][][]int,[][]int] -/
def f98A : AFunc :=
{ nargs := 2, res := [.t 4], body :=
  (.seq
   (.reg none [⟨(some 4), .mv (.c (.int .i64 0)), none⟩])
   (.seq
    (.seq
     (.reg none [⟨(some 6), .mv (.t 0), none⟩,
       ⟨(some 7), .len (.t 6), none⟩,
       ⟨(some 8), .mv (.c (.int .i64 0)), none⟩])
     (.block 0
      (.loop
       (.seq
        (.reg none [⟨(some 9), .bin .lss (.t 8) (.t 7), none⟩])
        (.seq
         (.cond (.t 9)
          .skip
          (.exit 0))
         (.seq
          (.block 1
           (.seq
            (.reg none [⟨(some 10), .mv (.t 8), none⟩,
              ⟨(some 5), .mv (.t 10), none⟩])
            (.seq
             (.reg none [⟨(some 11), .mv (.t 1), none⟩,
               ⟨(some 12), .mv (.t 0), none⟩,
               ⟨(some 13), .mv (.t 5), none⟩,
               ⟨(some 14), .iaddr 1 (.t 12) (.t 13), none⟩,
               ⟨(some 15), .load none (.t 14), none⟩,
               ⟨(some 16), .callv (.t 11) [(.t 15)], none⟩])
             (.cond (.t 16)
              (.seq
               (.reg none [⟨(some 17), .mv (.t 5), none⟩,
                 ⟨(some 4), .mv (.t 17), none⟩])
               .ret)
              .skip))))
          (.reg none [⟨(some 18), .bin .add (.t 8) (.c (.int .i64 1)), none⟩,
            ⟨(some 8), .mv (.t 18), none⟩])))))))
    (.seq
     (.reg none [⟨(some 4), .mv (.c (.int .i64 (-1))), none⟩])
     .ret))) }
theorem f98P : prepF C Try.f98 = some f98A := by kernel_rfl

/-- congou/counts.gcd -/
def f99A : AFunc :=
{ nargs := 2, res := [.t 4], body :=
  (.seq
   (.reg none [⟨(some 4), .mv (.c (.int .i64 0)), none⟩])
   (.seq
    (.block 0
     (.loop
      (.seq
       (.seq
        (.reg none [⟨(some 5), .mv (.t 1), none⟩,
          ⟨(some 6), .bin .neq (.t 5) (.c (.int .i64 0)), none⟩])
        (.cond (.t 6)
         .skip
         (.exit 0)))
       (.block 1
        (.reg (some []) [⟨(some 7), .mv (.t 1), none⟩,
          ⟨(some 8), .mv (.t 0), none⟩,
          ⟨(some 9), .mv (.t 1), none⟩,
          ⟨(some 10), .bin .rem (.t 8) (.t 9), none⟩,
          ⟨(some 0), .mv (.t 7), none⟩,
          ⟨(some 1), .mv (.t 10), none⟩])))))
    (.seq
     (.reg none [⟨(some 11), .mv (.t 0), none⟩,
       ⟨(some 12), .mv (.t 0), none⟩,
       ⟨(some 13), .un .neg (.t 12), none⟩,
       ⟨(some 14), .mx [(.t 11), (.t 13)], none⟩,
       ⟨(some 4), .mv (.t 14), none⟩])
     .ret))) }
theorem f99P : prepF C Try.f99 = some f99A := by kernel_rfl

/-- (congou/counts.margins).all$1 -/
def f100A : AFunc :=
{ nargs := 8, res := [.t 11], body :=
  (.seq
   (.reg none [⟨(some 11), .mv (.c (.b false)), none⟩])
   (.seq
    (.block 0
     (.seq
      (.reg none [⟨(some 15), .mv (.t 0), none⟩,
        ⟨(some 16), .faddr 0 (.t 3), none⟩,
        ⟨(some 17), .load none (.t 16), none⟩,
        ⟨(some 18), .len (.t 17), none⟩,
        ⟨(some 19), .bin .eql (.t 15) (.t 18), none⟩,
        ⟨(some 14), .mv (.t 19), none⟩])
      (.cond (.t 14)
       (.seq
        (.reg (some []) [⟨(some 20), .load none (.t 4), none⟩,
          ⟨(some 21), .call 101 [(.t 20)], none⟩,
          ⟨(some 22), .bin .gtr (.t 21) (.c (.int .i64 0)), none⟩,
          ⟨(some 23), .mv (.t 22), none⟩,
          ⟨(some 24), .load none (.t 5), some (23, false)⟩,
          ⟨(some 25), .load none (.t 6), some (23, false)⟩,
          ⟨(some 26), .call 84 [(.t 25)], some (23, false)⟩,
          ⟨(some 27), .callv (.t 24) [(.t 26)], some (23, false)⟩,
          ⟨(some 28), .pick (.t 23) (.c (.b true)) (.t 27), none⟩,
          ⟨(some 11), .mv (.t 28), none⟩])
        .ret)
       (.seq
        (.reg none [⟨(some 30), .mv (.t 1), none⟩,
          ⟨(some 31), .faddr 1 (.t 3), none⟩,
          ⟨(some 32), .load none (.t 31), none⟩,
          ⟨(some 33), .len (.t 32), none⟩,
          ⟨(some 34), .bin .eql (.t 30) (.t 33), none⟩,
          ⟨(some 29), .mv (.t 34), none⟩])
        (.cond (.t 29)
         (.seq
          (.seq
           (.reg none [⟨(some 35), .mv (.t 2), none⟩,
             ⟨(some 36), .bin .gtr (.t 35) (.c (.int .i64 0)), none⟩])
           (.cond (.t 36)
            (.seq
             (.reg none [⟨(some 11), .mv (.c (.b true)), none⟩])
             .ret)
            .skip))
          (.seq
           (.seq
            (.reg none [⟨(some 37), .mv (.t 0), none⟩,
              ⟨(some 38), .bin .add (.t 37) (.c (.int .i64 1)), none⟩,
              ⟨(some 39), .faddr 0 (.t 3), none⟩,
              ⟨(some 40), .load none (.t 39), none⟩,
              ⟨(some 41), .len (.t 40), none⟩,
              ⟨(some 42), .bin .eql (.t 38) (.t 41), none⟩])
            (.cond (.t 42)
             (.seq
              (.reg none [⟨(some 43), .load none (.t 7), none⟩,
                ⟨(some 44), .mv (.t 0), none⟩,
                ⟨(some 45), .bin .add (.t 44) (.c (.int .i64 1)), none⟩,
                ⟨(some 46), .callv (.t 43) [(.t 45), (.c (.int .i64 0)), (.c (.int .i64 0))], none⟩,
                ⟨(some 11), .mv (.t 46), none⟩])
              .ret)
             .skip))
           (.seq
            (.reg (some []) [⟨(some 47), .load none (.t 7), none⟩,
              ⟨(some 48), .mv (.t 0), none⟩,
              ⟨(some 49), .bin .add (.t 48) (.c (.int .i64 1)), none⟩,
              ⟨(some 50), .faddr 0 (.t 3), none⟩,
              ⟨(some 51), .load none (.t 50), none⟩,
              ⟨(some 52), .mv (.t 0), none⟩,
              ⟨(some 53), .bin .add (.t 52) (.c (.int .i64 1)), none⟩,
              ⟨(some 54), .iaddr 1 (.t 51) (.t 53), none⟩,
              ⟨(some 55), .load none (.t 54), none⟩,
              ⟨(some 56), .callv (.t 47) [(.t 49), (.c (.int .i64 0)), (.t 55)], none⟩,
              ⟨(some 11), .mv (.t 56), none⟩])
            .ret)))
         .skip)))))
    (.seq
     (.seq
      (.reg none [⟨(some 57), .mv (.t 2), none⟩,
        ⟨(some 58), .load none (.t 4), none⟩,
        ⟨(some 59), .mv (.t 1), none⟩,
        ⟨(some 60), .iaddr 1 (.t 58) (.t 59), none⟩,
        ⟨(some 61), .load none (.t 60), none⟩,
        ⟨(some 62), .mn [(.t 57), (.t 61)], none⟩,
        ⟨(some 63), .bin .add (.t 62) (.c (.int .i64 1)), none⟩,
        ⟨(some 64), .mv (.c (.int .i64 0)), none⟩])
      (.block 1
       (.loop
        (.seq
         (.reg none [⟨(some 65), .bin .lss (.t 64) (.t 63), none⟩])
         (.seq
          (.cond (.t 65)
           .skip
           (.exit 1))
          (.seq
           (.block 2
            (.seq
             (.reg none [⟨(some 66), .mv (.t 64), none⟩,
               ⟨(some 12), .mv (.t 66), none⟩])
             (.seq
              (.reg none [⟨(some 67), .load none (.t 6), none⟩,
                ⟨(some 68), .mv (.t 0), none⟩,
                ⟨(some 69), .iaddr 1 (.t 67) (.t 68), none⟩,
                ⟨(some 70), .load none (.t 69), none⟩,
                ⟨(some 71), .mv (.t 1), none⟩,
                ⟨(some 72), .mv (.t 12), none⟩,
                ⟨(some 73), .iaddr 1 (.t 70) (.t 71), none⟩,
                ⟨none, .store 1 (.t 73) (.t 72), none⟩])
              (.seq
               (.reg none [⟨(some 74), .load none (.t 4), none⟩,
                 ⟨(some 75), .mv (.t 1), none⟩,
                 ⟨(some 76), .iaddr 1 (.t 74) (.t 75), none⟩,
                 ⟨(some 77), .load none (.t 76), none⟩,
                 ⟨(some 78), .mv (.t 12), none⟩,
                 ⟨(some 79), .bin .sub (.t 77) (.t 78), none⟩,
                 ⟨(some 80), .iaddr 1 (.t 74) (.t 75), none⟩,
                 ⟨none, .store 1 (.t 80) (.t 79), none⟩])
               (.seq
                (.reg none [⟨(some 81), .load none (.t 7), none⟩,
                  ⟨(some 82), .mv (.t 0), none⟩,
                  ⟨(some 83), .mv (.t 1), none⟩,
                  ⟨(some 84), .bin .add (.t 83) (.c (.int .i64 1)), none⟩,
                  ⟨(some 85), .mv (.t 2), none⟩,
                  ⟨(some 86), .mv (.t 12), none⟩,
                  ⟨(some 87), .bin .sub (.t 85) (.t 86), none⟩,
                  ⟨(some 88), .callv (.t 81) [(.t 82), (.t 84), (.t 87)], none⟩,
                  ⟨(some 13), .mv (.t 88), none⟩])
                (.seq
                 (.reg none [⟨(some 89), .load none (.t 4), none⟩,
                   ⟨(some 90), .mv (.t 1), none⟩,
                   ⟨(some 91), .iaddr 1 (.t 89) (.t 90), none⟩,
                   ⟨(some 92), .load none (.t 91), none⟩,
                   ⟨(some 93), .mv (.t 12), none⟩,
                   ⟨(some 94), .bin .add (.t 92) (.t 93), none⟩,
                   ⟨(some 95), .iaddr 1 (.t 89) (.t 90), none⟩,
                   ⟨none, .store 1 (.t 95) (.t 94), none⟩])
                 (.seq
                  (.reg none [⟨(some 96), .mv (.t 13), none⟩,
                    ⟨(some 97), .un .not (.t 96), none⟩])
                  (.cond (.t 97)
                   (.seq
                    (.reg none [⟨(some 11), .mv (.c (.b false)), none⟩])
                    .ret)
                   .skip))))))))
           (.reg none [⟨(some 98), .bin .add (.t 64) (.c (.int .i64 1)), none⟩,
             ⟨(some 64), .mv (.t 98), none⟩])))))))
     (.seq
      (.reg none [⟨(some 11), .mv (.c (.b true)), none⟩])
      .ret)))) }
theorem f100P : prepF C Try.f100 = some f100A := by kernel_rfl

/-- slices.Max[[]int,int] -/
def f101A : AFunc :=
{ nargs := 1, res := [.t 2], body :=
  (.seq
   (.reg none [⟨(some 2), .mv (.c (.int .i64 0)), none⟩])
   (.seq
    (.seq
     (.reg none [⟨(some 5), .mv (.t 0), none⟩,
       ⟨(some 6), .len (.t 5), none⟩,
       ⟨(some 7), .bin .lss (.t 6) (.c (.int .i64 1)), none⟩])
     (.cond (.t 7)
      (.reg none [⟨(some 8), .bad, none⟩,
        ⟨none, .bad, none⟩])
      .skip))
    (.seq
     (.reg none [⟨(some 9), .mv (.t 0), none⟩,
       ⟨(some 10), .iaddr 1 (.t 9) (.c (.int .i64 0)), none⟩,
       ⟨(some 11), .load none (.t 10), none⟩,
       ⟨(some 3), .mv (.t 11), none⟩])
     (.seq
      (.seq
       (.reg none [⟨(some 4), .mv (.c (.int .i64 1)), none⟩])
       (.block 0
        (.loop
         (.seq
          (.seq
           (.reg none [⟨(some 12), .mv (.t 4), none⟩,
             ⟨(some 13), .mv (.t 0), none⟩,
             ⟨(some 14), .len (.t 13), none⟩,
             ⟨(some 15), .bin .lss (.t 12) (.t 14), none⟩])
           (.cond (.t 15)
            .skip
            (.exit 0)))
          (.seq
           (.block 1
            (.reg none [⟨(some 18), .mv (.t 3), none⟩,
              ⟨(some 19), .mv (.t 0), none⟩,
              ⟨(some 20), .mv (.t 4), none⟩,
              ⟨(some 21), .iaddr 1 (.t 19) (.t 20), none⟩,
              ⟨(some 22), .load none (.t 21), none⟩,
              ⟨(some 23), .mx [(.t 18), (.t 22)], none⟩,
              ⟨(some 3), .mv (.t 23), none⟩]))
           (.reg none [⟨(some 16), .mv (.t 4), none⟩,
             ⟨(some 17), .bin .add (.t 16) (.c (.int .i64 1)), none⟩,
             ⟨(some 4), .mv (.t 17), none⟩]))))))
      (.seq
       (.reg none [⟨(some 24), .mv (.t 3), none⟩,
         ⟨(some 2), .mv (.t 24), none⟩])
       .ret))))) }
theorem f101P : prepF C Try.f101 = some f101A := by kernel_rfl

/-- cmp.isNaN[int] -/
def f102A : AFunc :=
{ nargs := 1, res := [.t 2], body :=
  (.seq
   (.reg none [⟨(some 2), .mv (.c (.b false)), none⟩])
   (.seq
    (.reg none [⟨(some 3), .mv (.t 0), none⟩,
      ⟨(some 4), .mv (.t 0), none⟩,
      ⟨(some 5), .bin .neq (.t 3) (.t 4), none⟩,
      ⟨(some 2), .mv (.t 5), none⟩])
    .ret)) }
theorem f102P : prepF C Try.f102 = some f102A := by kernel_rfl

/-- slices.IndexFunc[[]congou/counts.table,congou/counts.table] -/
def f103A : AFunc :=
{ nargs := 2, res := [.t 4], body :=
  (.seq
   (.reg none [⟨(some 4), .mv (.c (.int .i64 0)), none⟩])
   (.seq
    (.seq
     (.reg none [⟨(some 6), .mv (.t 0), none⟩,
       ⟨(some 7), .len (.t 6), none⟩,
       ⟨(some 8), .mv (.c (.int .i64 0)), none⟩])
     (.block 0
      (.loop
       (.seq
        (.reg none [⟨(some 9), .bin .lss (.t 8) (.t 7), none⟩])
        (.seq
         (.cond (.t 9)
          .skip
          (.exit 0))
         (.seq
          (.block 1
           (.seq
            (.reg none [⟨(some 10), .mv (.t 8), none⟩,
              ⟨(some 5), .mv (.t 10), none⟩])
            (.seq
             (.reg none [⟨(some 11), .mv (.t 1), none⟩,
               ⟨(some 12), .mv (.t 0), none⟩,
               ⟨(some 13), .mv (.t 5), none⟩,
               ⟨(some 14), .iaddr 1 (.t 12) (.t 13), none⟩,
               ⟨(some 15), .load none (.t 14), none⟩,
               ⟨(some 16), .callv (.t 11) [(.t 15)], none⟩])
             (.cond (.t 16)
              (.seq
               (.reg none [⟨(some 17), .mv (.t 5), none⟩,
                 ⟨(some 4), .mv (.t 17), none⟩])
               .ret)
              .skip))))
          (.reg none [⟨(some 18), .bin .add (.t 8) (.c (.int .i64 1)), none⟩,
            ⟨(some 8), .mv (.t 18), none⟩])))))))
    (.seq
     (.reg none [⟨(some 4), .mv (.c (.int .i64 (-1))), none⟩])
     .ret))) }
theorem f103P : prepF C Try.f103 = some f103A := by kernel_rfl

end Go.Proofs.Ytflekaacffdakaa
