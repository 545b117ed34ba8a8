/- The lift: Do is the plain function doS. No condition. -/
import Derived.Test.YthjmbcnohgaihaaLif8
namespace Go.Proofs.Ythjmbcnohgaihaa
open Go.Cm Go.Proofs
section
variable (N : Nat)
def mkD (r : LiftState) (d : Drive) : LiftState := LiftState.mk r.Lift r.Motor d r.Brakes r.Chain r.Wind r.Line r.Queue r.Checks r.Time r.Mode r.Up r.Off
def guardK {β : Type} (p : LiftState) (K : LiftState → Option β) : Option β :=
  (chain_Expire N p.Chain p.Time).bind fun (r13 : Chain) =>
    (bif p.Mode == (3 : Int) then (rope_People N p.Line).bind fun (r14 : Int) => some (r14 == (0 : Int)) else some false).bind fun (r15 : Bool) =>
      (bif r15 then some (LiftState.mk p.Lift p.Motor p.Drive p.Brakes r13 p.Wind p.Line p.Queue p.Checks p.Time (0 : Int) p.Up p.Off)
        else some (LiftState.mk p.Lift p.Motor p.Drive p.Brakes r13 p.Wind p.Line p.Queue p.Checks p.Time p.Mode p.Up p.Off)).bind fun (r16 : LiftState) =>
        bif r16.Drive.State != (1 : Int) then K r16
        else
          bif r16.Mode == (0 : Int) then (drive_Halt N r16.Motor r16.Drive).bind fun (r17 : Drive) => K (mkD r16 r17)
          else
            (lift_May N r16).bind fun (r18 : Int) =>
              (bif r18 == (0 : Int) then some r16
                else
                  (bif r18 == (13 : Int) then some (r18 == (13 : Int)) else some (r18 == (14 : Int))).bind fun (r19 : Bool) =>
                    (bif r19 then (drive_Emergency N r16.Motor r16.Drive).bind fun (r20 : Drive) => some (mkD r16 r20)
                      else (drive_Halt N r16.Motor r16.Drive).bind fun (r21 : Drive) => some (mkD r16 r21)).bind fun (r22 : LiftState) => some r22).bind fun (r23 : LiftState) => K r23
def finF (e : LiftEvent) (p : LiftState) : Option (LiftState × Int) := (bif e.Kind != (1 : Int) then guardK N p some else some p).bind fun r => some (r, (0 : Int))
def finE (e : LiftEvent) (q : Int × LiftState) : Option (LiftState × Int) := bif q.1 != (0 : Int) then some (z_LiftState, q.1) else finF N e q.2
def el {α β : Type} (x : Option (α ⊕ β)) : Option (α ⊕ β) := x.bind fun r => Sum.elim (fun p => some (Sum.inl p)) (fun p => some (Sum.inr p)) r
def mkS (p : LiftState) (d : Drive) (l : Line) (q : Queue) (u o : Int) : LiftState := LiftState.mk p.Lift p.Motor d p.Brakes p.Chain p.Wind l q p.Checks (IntKind.i64.wrap (p.Time + (1 : Int))) p.Mode u o
def tickB (n : Int) (p5 : Int × LiftState) : Option ((Int × LiftState) ⊕ (LiftState ⊕ (Int × LiftState))) :=
  bif decide (p5.fst < n) then
    (drive_Step N p5.snd.Motor p5.snd.Drive (1 : Int)).bind fun (r6 : Drive) =>
      (rope_Move N p5.snd.Line r6.Speed).bind fun (r7 : Line × Int × Int × Int) =>
        bif r7.snd.snd.snd != (0 : Int) then some (Sum.inr (Sum.inr (r7.snd.snd.snd, mkS p5.snd r6 p5.snd.Line p5.snd.Queue p5.snd.Up p5.snd.Off)))
        else
          (bif decide (r7.snd.fst ≥ (0 : Int)) then some (p5.snd.Mode == (1 : Int)) else some false).bind fun (r8 : Bool) =>
            (bif r8 then
                (queue_Seat N p5.snd.Queue p5.snd.Lift.Seats).bind fun (r9 : Queue × Int × Int) =>
                  bif r9.snd.snd != (0 : Int) then
                    bif r9.snd.snd != (0 : Int) then some (Sum.inr (r9.snd.snd, mkS p5.snd r6 r7.fst p5.snd.Queue p5.snd.Up (IntKind.i64.wrap (p5.snd.Off + r7.snd.snd.fst))))
                    else some (Sum.inl (mkS p5.snd r6 r7.fst p5.snd.Queue p5.snd.Up (IntKind.i64.wrap (p5.snd.Off + r7.snd.snd.fst))))
                  else
                    (rope_Load N r7.fst r7.snd.fst r9.snd.fst p5.snd.Lift.Seats).bind fun (r10 : Line × Int) =>
                      bif r10.snd != (0 : Int) then
                        bif r10.snd != (0 : Int) then some (Sum.inr (r10.snd, mkS p5.snd r6 r7.fst p5.snd.Queue p5.snd.Up (IntKind.i64.wrap (p5.snd.Off + r7.snd.snd.fst))))
                        else some (Sum.inl (mkS p5.snd r6 r7.fst p5.snd.Queue p5.snd.Up (IntKind.i64.wrap (p5.snd.Off + r7.snd.snd.fst))))
                      else some (Sum.inl (mkS p5.snd r6 r10.fst r9.fst (IntKind.i64.wrap (p5.snd.Up + r9.snd.fst)) (IntKind.i64.wrap (p5.snd.Off + r7.snd.snd.fst))))
              else some (Sum.inl (mkS p5.snd r6 r7.fst p5.snd.Queue p5.snd.Up (IntKind.i64.wrap (p5.snd.Off + r7.snd.snd.fst))))).bind fun (r11 : LiftState ⊕ Int × LiftState) =>
              Sum.elim (fun (p12 : LiftState) => guardK N p12 fun r => some (Sum.inl (IntKind.i64.wrap (p5.fst + (1 : Int)), r))) (fun (p24 : Int × LiftState) => some (Sum.inr (Sum.inr p24))) r11
  else some (Sum.inr (Sum.inl p5.snd))
def doF (x0 : LiftState) (x1 : LiftEvent) : Option (LiftState × Int) :=
  (lift_Right N x0).bind fun (r2 : Bool) =>
    bif !r2 then some (z_LiftState, (1 : Int))
    else
      (lift_clone N x0).bind fun (r3 : LiftState) =>
        bif x1.Kind == (1 : Int) then
          (bif decide (x1.N < (1 : Int)) then some true else bif decide (x1.N > (600 : Int)) then some true else some (decide (IntKind.i64.wrap (r3.Time + x1.N) > (20000000 : Int)))).bind fun (r4 : Bool) =>
            bif r4 then some (z_LiftState, (2 : Int))
            else
              (whileF N (tickB N x1.N) ((0 : Int), r3)).bind fun (r25 : LiftState ⊕ Int × LiftState) =>
                Sum.elim
                  (fun (p26 : LiftState) =>
                    (bif decide (p26.Up > (1125899906842624 : Int)) then some true else some (decide (p26.Off > (1125899906842624 : Int)))).bind fun (r27 : Bool) =>
                      bif r27 then some (z_LiftState, (12 : Int)) else finF N x1 p26)
                  (finE N x1) r25
        else
          (bif x1.Kind == (2 : Int) then some (x1.Kind == (2 : Int))
              else (bif x1.Kind == (3 : Int) then some (x1.Kind == (3 : Int))
                    else (bif x1.Kind == (17 : Int) then some (x1.Kind == (17 : Int))
                          else (bif x1.Kind == (18 : Int) then some (x1.Kind == (18 : Int)) else some (x1.Kind == (19 : Int))).bind fun (r53 : Bool) => some r53).bind
                        fun (r54 : Bool) => some r54).bind
                  fun (r55 : Bool) => some r55).bind
            fun (r56 : Bool) =>
            bif r56 then
              (bif x1.Kind == (2 : Int) then
                    bif r3.Mode != (0 : Int) then some (Sum.inr ((10 : Int), r3))
                    else (lift_May N r3).bind fun (r57 : Int) => bif r57 != (0 : Int) then some (Sum.inr (r57, r3)) else some (Sum.inl (setMode r3 1))
                  else
                    el (bif x1.Kind == (3 : Int) then
                          bif r3.Mode != (1 : Int) then some (Sum.inr ((10 : Int), r3)) else some (Sum.inl (setMode (setQueue r3 z_Queue) 3))
                        else
                          bif x1.Kind == (17 : Int) then
                            (bif r3.Mode == (0 : Int) then some true else some (r3.Mode == (2 : Int))).bind fun (r58 : Bool) =>
                              bif r58 then some (Sum.inr ((10 : Int), r3))
                              else
                                bif r3.Drive.Speed != (0 : Int) then some (Sum.inr ((13 : Int), r3))
                                else
                                  (bif r3.Drive.State == (1 : Int) then some (decide (r3.Drive.Target > (1000 : Int))) else some false).bind fun (r59 : Bool) =>
                                    (bif r59 then (drive_Halt N r3.Motor r3.Drive).bind fun (r60 : Drive) => some (setMode (setQueue (setDrive r3 r60) z_Queue) 2)
                                        else some (setMode (setQueue r3 z_Queue) 2)).bind fun (r61 : LiftState) => some (Sum.inr ((0 : Int), r61))
                          else
                            bif x1.Kind == (18 : Int) then
                              bif r3.Mode != (2 : Int) then some (Sum.inr ((10 : Int), r3))
                              else
                                bif r3.Drive.Speed != (0 : Int) then some (Sum.inr ((13 : Int), r3))
                                else
                                  (rope_Take N r3.Line x1.M x1.N).bind fun (r62 : Line × Int) =>
                                    bif r62.snd != (0 : Int) then some (Sum.inr (r62.snd, r3))
                                    else
                                      bif decide (IntKind.i64.wrap (r3.Off + x1.N) > (1125899906842624 : Int)) then some (Sum.inr ((12 : Int), r3))
                                      else some (Sum.inr ((0 : Int), setLine r3 r62.fst (IntKind.i64.wrap (r3.Off + x1.N))))
                            else
                              el (bif x1.Kind == (19 : Int) then
                                    bif r3.Mode != (2 : Int) then some (Sum.inr ((10 : Int), r3))
                                    else (rope_People N r3.Line).bind fun (r63 : Int) => bif decide (r63 > (0 : Int)) then some (Sum.inr ((13 : Int), r3)) else some (Sum.inl (setMode r3 0))
                                  else some (Sum.inl r3)))).bind
                fun (r70 : LiftState ⊕ Int × LiftState) => Sum.elim (finF N x1) (finE N x1) r70
            else
              (bif x1.Kind == (4 : Int) then some (x1.Kind == (4 : Int))
                  else (bif x1.Kind == (5 : Int) then some (x1.Kind == (5 : Int))
                        else (bif x1.Kind == (6 : Int) then some (x1.Kind == (6 : Int)) else some (x1.Kind == (7 : Int))).bind fun (r97 : Bool) => some r97).bind
                      fun (r98 : Bool) => some r98).bind
                fun (r99 : Bool) =>
                bif r99 then
                  (bif x1.Kind == (4 : Int) then
                        bif r3.Mode == (0 : Int) then some (Sum.inr ((10 : Int), r3))
                        else
                          (bif r3.Mode == (2 : Int) then some (decide (x1.N > (1000 : Int))) else some false).bind fun (r100 : Bool) =>
                            bif r100 then some (Sum.inr ((2 : Int), r3))
                            else
                              (lift_May N r3).bind fun (r101 : Int) =>
                                bif r101 != (0 : Int) then some (Sum.inr (r101, r3))
                                else (drive_Start N r3.Motor r3.Drive x1.N).bind fun (r102 : Drive × Int) => some (Sum.inl (r102.snd, setDrive r3 r102.fst))
                      else
                        (bif x1.Kind == (5 : Int) then (drive_Halt N r3.Motor r3.Drive).bind fun (r103 : Drive) => some ((0 : Int), setDrive r3 r103)
                            else
                              (bif x1.Kind == (6 : Int) then (drive_Emergency N r3.Motor r3.Drive).bind fun (r104 : Drive) => some ((0 : Int), setDrive r3 r104)
                                  else
                                    (bif x1.Kind == (7 : Int) then (drive_Reset N r3.Motor r3.Drive).bind fun (r105 : Drive × Int) => some (r105.snd, setDrive r3 r105.fst)
                                        else some ((0 : Int), r3)).bind fun (r106 : Int × LiftState) => some r106).bind
                                fun (r107 : Int × LiftState) => some r107).bind
                          fun (r108 : Int × LiftState) => some (Sum.inl r108)).bind
                    fun (r109 : Int × LiftState ⊕ Int × LiftState) => Sum.elim (finE N x1) (finE N x1) r109
                else
                  (bif x1.Kind == (8 : Int) then some (x1.Kind == (8 : Int))
                      else (bif x1.Kind == (9 : Int) then some (x1.Kind == (9 : Int))
                            else (bif x1.Kind == (10 : Int) then some (x1.Kind == (10 : Int))
                                  else (bif x1.Kind == (11 : Int) then some (x1.Kind == (11 : Int)) else some (x1.Kind == (12 : Int))).bind fun (r136 : Bool) => some r136).bind
                                fun (r137 : Bool) => some r137).bind
                          fun (r138 : Bool) => some r138).bind
                    fun (r139 : Bool) =>
                    bif r139 then
                      (bif x1.Kind == (8 : Int) then (chain_Break N r3.Chain x1.N).bind fun (r140 : Chain × Int) => some (Sum.inl (r140.snd, setChain r3 r140.fst))
                          else
                            el (bif x1.Kind == (9 : Int) then (chain_Make N r3.Chain x1.N).bind fun (r141 : Chain × Int) => some (Sum.inl (r141.snd, setChain r3 r141.fst))
                                else
                                  el (bif x1.Kind == (10 : Int) then (chain_Clear N r3.Chain x1.N x1.By).bind fun (r142 : Chain × Int) => some (Sum.inl (r142.snd, setChain r3 r142.fst))
                                      else
                                        el (bif x1.Kind == (11 : Int) then (chain_Take N r3.Chain x1.By).bind fun (r143 : Chain × Int) => some (Sum.inl (r143.snd, setChain r3 r143.fst))
                                            else
                                              el (bif x1.Kind == (12 : Int) then
                                                    (bif decide (x1.M < (1 : Int)) then some true else some (decide (x1.M > (3600 : Int)))).bind fun (r144 : Bool) =>
                                                      bif r144 then some (Sum.inr ((2 : Int), r3))
                                                      else (chain_Bypass N r3.Chain x1.N x1.By (IntKind.i64.wrap (r3.Time + x1.M))).bind fun (r145 : Chain × Int) => some (Sum.inl (r145.snd, setChain r3 r145.fst))
                                                  else some (Sum.inl ((0 : Int), r3))))))).bind
                        fun (r158 : Int × LiftState ⊕ Int × LiftState) => Sum.elim (finE N x1) (finE N x1) r158
                    else
                      (bif x1.Kind == (13 : Int) then some (x1.Kind == (13 : Int))
                          else (bif x1.Kind == (14 : Int) then some (x1.Kind == (14 : Int))
                                else (bif x1.Kind == (15 : Int) then some (x1.Kind == (15 : Int)) else some (x1.Kind == (16 : Int))).bind fun (r185 : Bool) => some r185).bind
                              fun (r186 : Bool) => some r186).bind
                        fun (r187 : Bool) =>
                        bif r187 then
                          (bif x1.Kind == (13 : Int) then
                                bif r3.Drive.State != (0 : Int) then some (Sum.inr ((10 : Int), r3))
                                else (brake_Test N r3.Brakes x1.N x1.M r3.Time).bind fun (r188 : List Brake × Int) => some (Sum.inl (r188.snd, setBrakes r3 r188.fst))
                              else
                                el (bif x1.Kind == (14 : Int) then (weather_Update N r3.Wind x1.N r3.Time).bind fun (r189 : Alarm × Int) => some (Sum.inl (r189.snd, setWind r3 r189.fst))
                                    else
                                      el (bif x1.Kind == (15 : Int) then (inspect_Sign N r3.Checks x1.N x1.By r3.Time).bind fun (r190 : Checklist × Int) => some (Sum.inl (r190.snd, setChecks r3 r190.fst))
                                          else
                                            el (bif x1.Kind == (16 : Int) then
                                                  bif r3.Mode != (1 : Int) then some (Sum.inr ((10 : Int), r3))
                                                  else
                                                    el (bif x1.M == (0 : Int) then (queue_Join N r3.Queue x1.N).bind fun (r191 : Queue × Int) => some (Sum.inl (r191.snd, setQueue r3 r191.fst))
                                                        else
                                                          bif x1.M == (1 : Int) then (queue_Single N r3.Queue x1.N).bind fun (r192 : Queue × Int) => some (Sum.inl (r192.snd, setQueue r3 r192.fst))
                                                          else some (Sum.inr ((2 : Int), r3)))
                                                else some (Sum.inl ((0 : Int), r3)))))).bind
                            fun (r205 : Int × LiftState ⊕ Int × LiftState) => Sum.elim (finE N x1) (finE N x1) r205
                        else some (z_LiftState, (18 : Int))
theorem do_form (s : LiftState) (e : LiftEvent) : lift_Do N s e = doF N s e := by kernel_rfl
end
end Go.Proofs.Ythjmbcnohgaihaa
