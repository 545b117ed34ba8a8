/- Own texts in one module: Lifa. No condition. -/
import Derived.Test.YthjmbcnohgaihaaGreatFn10
import Derived.Test.YthjmbcnohgaihaaGreatCmq
/- The lift: the examples hold; the functions are evaluated with states that are numbers at each step. No condition. -/
namespace Go.Proofs.YthjmbcnohgaihaaGreat
open Go.Cm Go.Proofs
set_option linter.unusedVariables false
def fN {β : Type} (n : Nat) (k : Nat → β) : β := match n with | 0 => k 0 | m + 1 => k (m + 1)
def fI {β : Type} (z : Int) (k : Int → β) : β := match z with | Int.ofNat n => fN n fun n => k (Int.ofNat n) | Int.negSucc n => fN n fun n => k (Int.negSucc n)
def fB {β : Type} (b : Bool) (k : Bool → β) : β := match b with | false => k false | true => k true
def fL {α β : Type} (f : α → (α → β) → β) : List α → (List α → β) → β
  | [], k => k []
  | a :: l, k => f a fun a => fL f l fun l => k (a :: l)
theorem fN_eq {β : Type} (n : Nat) (k : Nat → β) : fN n k = k n := by cases n <;> rfl
theorem fI_eq {β : Type} (z : Int) (k : Int → β) : fI z k = k z := by
  cases z <;> simp only [fI, fN_eq]
theorem fB_eq {β : Type} (b : Bool) (k : Bool → β) : fB b k = k b := by cases b <;> rfl
theorem fL_eq {α β : Type} {f : α → (α → β) → β} (h : ∀ a k, f a k = k a) (l : List α) (k : List α → β) : fL f l k = k l := by
  induction l generalizing k with
  | nil => rfl
  | cons a l ih => exact (h a _).trans (ih _)
def fLift {β : Type} (s : Lift) (k : Lift → β) : β := match s with | Lift.mk s0 s1 s2 s3 s4 s5 s6 s7 => fI s0 fun a0 => fI s1 fun a1 => fI s2 fun a2 => fI s3 fun a3 => fI s4 fun a4 => fI s5 fun a5 => fI s6 fun a6 => fI s7 fun a7 => k (Lift.mk a0 a1 a2 a3 a4 a5 a6 a7)
theorem fLift_eq {β : Type} (s : Lift) (k : Lift → β) : fLift s k = k s := by
  cases s
  simp only [fLift, fI_eq]
def fMotor {β : Type} (s : Motor) (k : Motor → β) : β := match s with | Motor.mk s0 s1 s2 s3 => fI s0 fun a0 => fI s1 fun a1 => fI s2 fun a2 => fI s3 fun a3 => k (Motor.mk a0 a1 a2 a3)
theorem fMotor_eq {β : Type} (s : Motor) (k : Motor → β) : fMotor s k = k s := by
  cases s
  simp only [fMotor, fI_eq]
def fDrive {β : Type} (s : Drive) (k : Drive → β) : β := match s with | Drive.mk s0 s1 s2 s3 => fI s0 fun a0 => fI s1 fun a1 => fI s2 fun a2 => fI s3 fun a3 => k (Drive.mk a0 a1 a2 a3)
theorem fDrive_eq {β : Type} (s : Drive) (k : Drive → β) : fDrive s k = k s := by
  cases s
  simp only [fDrive, fI_eq]
def fBrake {β : Type} (s : Brake) (k : Brake → β) : β := match s with | Brake.mk s0 s1 s2 s3 s4 => fI s0 fun a0 => fI s1 fun a1 => fI s2 fun a2 => fI s3 fun a3 => fI s4 fun a4 => k (Brake.mk a0 a1 a2 a3 a4)
theorem fBrake_eq {β : Type} (s : Brake) (k : Brake → β) : fBrake s k = k s := by
  cases s
  simp only [fBrake, fI_eq]
def fContact {β : Type} (s : Contact) (k : Contact → β) : β := match s with | Contact.mk s0 s1 s2 s3 s4 => fI s0 fun a0 => fB s1 fun a1 => fB s2 fun a2 => fB s3 fun a3 => fI s4 fun a4 => k (Contact.mk a0 a1 a2 a3 a4)
theorem fContact_eq {β : Type} (s : Contact) (k : Contact → β) : fContact s k = k s := by
  cases s
  simp only [fContact, fB_eq, fI_eq]
def fChain {β : Type} (s : Chain) (k : Chain → β) : β := match s with | Chain.mk s0 s1 => fL fContact s0 fun a0 => fI s1 fun a1 => k (Chain.mk a0 a1)
theorem fChain_eq {β : Type} (s : Chain) (k : Chain → β) : fChain s k = k s := by
  cases s
  simp only [fChain, (fL_eq fContact_eq), fI_eq]
def fAlarm {β : Type} (s : Alarm) (k : Alarm → β) : β := match s with | Alarm.mk s0 s1 s2 s3 s4 => fI s0 fun a0 => fI s1 fun a1 => fI s2 fun a2 => fB s3 fun a3 => fI s4 fun a4 => k (Alarm.mk a0 a1 a2 a3 a4)
theorem fAlarm_eq {β : Type} (s : Alarm) (k : Alarm → β) : fAlarm s k = k s := by
  cases s
  simp only [fAlarm, fB_eq, fI_eq]
def fLine {β : Type} (s : Line) (k : Line → β) : β := match s with | Line.mk s0 s1 s2 s3 => fI s0 fun a0 => fI s1 fun a1 => fI s2 fun a2 => fL fI s3 fun a3 => k (Line.mk a0 a1 a2 a3)
theorem fLine_eq {β : Type} (s : Line) (k : Line → β) : fLine s k = k s := by
  cases s
  simp only [fLine, (fL_eq fI_eq), fI_eq]
def fQueue {β : Type} (s : Queue) (k : Queue → β) : β := match s with | Queue.mk s0 s1 => fL fI s0 fun a0 => fI s1 fun a1 => k (Queue.mk a0 a1)
theorem fQueue_eq {β : Type} (s : Queue) (k : Queue → β) : fQueue s k = k s := by
  cases s
  simp only [fQueue, (fL_eq fI_eq), fI_eq]
def fSign {β : Type} (s : Sign) (k : Sign → β) : β := match s with | Sign.mk s0 s1 s2 => fI s0 fun a0 => fI s1 fun a1 => fI s2 fun a2 => k (Sign.mk a0 a1 a2)
theorem fSign_eq {β : Type} (s : Sign) (k : Sign → β) : fSign s k = k s := by
  cases s
  simp only [fSign, fI_eq]
def fChecklist {β : Type} (s : Checklist) (k : Checklist → β) : β := match s with | Checklist.mk s0 s1 s2 => fL fI s0 fun a0 => fI s1 fun a1 => fL fSign s2 fun a2 => k (Checklist.mk a0 a1 a2)
theorem fChecklist_eq {β : Type} (s : Checklist) (k : Checklist → β) : fChecklist s k = k s := by
  cases s
  simp only [fChecklist, (fL_eq fI_eq), (fL_eq fSign_eq), fI_eq]
def fLiftState {β : Type} (s : LiftState) (k : LiftState → β) : β := match s with | LiftState.mk s0 s1 s2 s3 s4 s5 s6 s7 s8 s9 s10 s11 s12 => fLift s0 fun a0 => fMotor s1 fun a1 => fDrive s2 fun a2 => fL fBrake s3 fun a3 => fChain s4 fun a4 => fAlarm s5 fun a5 => fLine s6 fun a6 => fQueue s7 fun a7 => fChecklist s8 fun a8 => fI s9 fun a9 => fI s10 fun a10 => fI s11 fun a11 => fI s12 fun a12 => k (LiftState.mk a0 a1 a2 a3 a4 a5 a6 a7 a8 a9 a10 a11 a12)
theorem fLiftState_eq {β : Type} (s : LiftState) (k : LiftState → β) : fLiftState s k = k s := by
  cases s
  simp only [fLiftState, (fL_eq fBrake_eq), fAlarm_eq, fChain_eq, fChecklist_eq, fDrive_eq, fI_eq, fLift_eq, fLine_eq, fMotor_eq, fQueue_eq]
def fP {β : Type} (s : Int × LiftState) (k : Int × LiftState → β) : β := match s with | (a, b) => fI a fun a => fLiftState b fun b => k (a, b)
theorem fP_eq {β : Type} (s : Int × LiftState) (k : Int × LiftState → β) : fP s k = k s := by
  cases s
  simp only [fP, fI_eq, fLiftState_eq]
def whileS {σ ρ : Type} (fo : σ → (σ → Option ρ) → Option ρ) (N : Nat) (body : σ → Option (Sum σ ρ)) (s : σ) : Option ρ :=
  Nat.rec (motive := fun _ => σ → Option ρ) (fun _ => none) (fun _ ih s => fo s fun s => Option.bind (body s) fun o => Sum.elim ih some o) N s
theorem whileS_eq {σ ρ : Type} {fo : σ → (σ → Option ρ) → Option ρ} (h : ∀ s k, fo s k = k s) (N : Nat) (body : σ → Option (Sum σ ρ)) (s : σ) : whileF N body s = whileS fo N body s := by
  induction N generalizing s with
  | zero => rfl
  | succ N ih =>
    refine Eq.trans ?_ (h s _).symm
    rw [whileF_succ]
    congr 1
    funext o
    cases o with
    | inl s => exact ih s
    | inr r => rfl
def lift_DoS (N : Nat) (x0 : LiftState) (x1 : LiftEvent) : Option (LiftState × Int) :=
 
  (lift_Right N x0).bind fun (r2 : Bool) =>
    bif !r2 then some (z_LiftState, (1 : Int))
    else
      (lift_clone N x0).bind fun (r3 : LiftState) =>
        bif x1.Kind == (1 : Int) then
          (bif decide (x1.N < (1 : Int)) then some true
              else
                bif decide (x1.N > (600 : Int)) then some true
                else some (decide (IntKind.i64.wrap (r3.Time + x1.N) > (20000000 : Int)))).bind
            fun (r4 : Bool) =>
            bif r4 then some (z_LiftState, (2 : Int))
            else
              (whileS fP N
                    (fun (p5 : Int × LiftState) =>
                      bif decide (p5.fst < x1.N) then
                        (drive_Step N p5.snd.Motor p5.snd.Drive (1 : Int)).bind fun (r6 : Drive) =>
                          (rope_Move N p5.snd.Line r6.Speed).bind fun (r7 : Line × Int × Int × Int) =>
                            bif r7.snd.snd.snd != (0 : Int) then
                              some
                                (Sum.inr
                                  (Sum.inr
                                    (r7.snd.snd.snd,
                                      LiftState.mk p5.snd.Lift p5.snd.Motor r6 p5.snd.Brakes p5.snd.Chain p5.snd.Wind
                                        p5.snd.Line p5.snd.Queue p5.snd.Checks
                                        (IntKind.i64.wrap (p5.snd.Time + (1 : Int))) p5.snd.Mode p5.snd.Up p5.snd.Off)))
                            else
                              (bif decide (r7.snd.fst ≥ (0 : Int)) then some (p5.snd.Mode == (1 : Int))
                                  else some false).bind
                                fun (r8 : Bool) =>
                                (bif r8 then
                                      (queue_Seat N p5.snd.Queue p5.snd.Lift.Seats).bind fun (r9 : Queue × Int × Int) =>
                                        bif r9.snd.snd != (0 : Int) then
                                          bif r9.snd.snd != (0 : Int) then
                                            some
                                              (Sum.inr
                                                (r9.snd.snd,
                                                  LiftState.mk p5.snd.Lift p5.snd.Motor r6 p5.snd.Brakes p5.snd.Chain
                                                    p5.snd.Wind r7.fst p5.snd.Queue p5.snd.Checks
                                                    (IntKind.i64.wrap (p5.snd.Time + (1 : Int))) p5.snd.Mode p5.snd.Up
                                                    (IntKind.i64.wrap (p5.snd.Off + r7.snd.snd.fst))))
                                          else
                                            some
                                              (Sum.inl
                                                (LiftState.mk p5.snd.Lift p5.snd.Motor r6 p5.snd.Brakes p5.snd.Chain
                                                  p5.snd.Wind r7.fst p5.snd.Queue p5.snd.Checks
                                                  (IntKind.i64.wrap (p5.snd.Time + (1 : Int))) p5.snd.Mode p5.snd.Up
                                                  (IntKind.i64.wrap (p5.snd.Off + r7.snd.snd.fst))))
                                        else
                                          (rope_Load N r7.fst r7.snd.fst r9.snd.fst p5.snd.Lift.Seats).bind
                                            fun (r10 : Line × Int) =>
                                            bif r10.snd != (0 : Int) then
                                              bif r10.snd != (0 : Int) then
                                                some
                                                  (Sum.inr
                                                    (r10.snd,
                                                      LiftState.mk p5.snd.Lift p5.snd.Motor r6 p5.snd.Brakes
                                                        p5.snd.Chain p5.snd.Wind r7.fst p5.snd.Queue p5.snd.Checks
                                                        (IntKind.i64.wrap (p5.snd.Time + (1 : Int))) p5.snd.Mode
                                                        p5.snd.Up (IntKind.i64.wrap (p5.snd.Off + r7.snd.snd.fst))))
                                              else
                                                some
                                                  (Sum.inl
                                                    (LiftState.mk p5.snd.Lift p5.snd.Motor r6 p5.snd.Brakes p5.snd.Chain
                                                      p5.snd.Wind r7.fst p5.snd.Queue p5.snd.Checks
                                                      (IntKind.i64.wrap (p5.snd.Time + (1 : Int))) p5.snd.Mode p5.snd.Up
                                                      (IntKind.i64.wrap (p5.snd.Off + r7.snd.snd.fst))))
                                            else
                                              some
                                                (Sum.inl
                                                  (LiftState.mk p5.snd.Lift p5.snd.Motor r6 p5.snd.Brakes p5.snd.Chain
                                                    p5.snd.Wind r10.fst r9.fst p5.snd.Checks
                                                    (IntKind.i64.wrap (p5.snd.Time + (1 : Int))) p5.snd.Mode
                                                    (IntKind.i64.wrap (p5.snd.Up + r9.snd.fst))
                                                    (IntKind.i64.wrap (p5.snd.Off + r7.snd.snd.fst))))
                                    else
                                      some
                                        (Sum.inl
                                          (LiftState.mk p5.snd.Lift p5.snd.Motor r6 p5.snd.Brakes p5.snd.Chain
                                            p5.snd.Wind r7.fst p5.snd.Queue p5.snd.Checks
                                            (IntKind.i64.wrap (p5.snd.Time + (1 : Int))) p5.snd.Mode p5.snd.Up
                                            (IntKind.i64.wrap (p5.snd.Off + r7.snd.snd.fst))))).bind
                                  fun (r11 : LiftState ⊕ Int × LiftState) =>
                                  Sum.elim
                                    (fun (p12 : LiftState) =>
                                      (chain_Expire N p12.Chain p12.Time).bind fun (r13 : Chain) =>
                                        (bif p12.Mode == (3 : Int) then
                                              (rope_People N p12.Line).bind fun (r14 : Int) => some (r14 == (0 : Int))
                                            else some false).bind
                                          fun (r15 : Bool) =>
                                          (bif r15 then
                                                some
                                                  (LiftState.mk p12.Lift p12.Motor p12.Drive p12.Brakes r13 p12.Wind
                                                    p12.Line p12.Queue p12.Checks p12.Time (0 : Int) p12.Up p12.Off)
                                              else
                                                some
                                                  (LiftState.mk p12.Lift p12.Motor p12.Drive p12.Brakes r13 p12.Wind
                                                    p12.Line p12.Queue p12.Checks p12.Time p12.Mode p12.Up
                                                    p12.Off)).bind
                                            fun (r16 : LiftState) =>
                                            bif r16.Drive.State != (1 : Int) then
                                              some (Sum.inl (IntKind.i64.wrap (p5.fst + (1 : Int)), r16))
                                            else
                                              bif r16.Mode == (0 : Int) then
                                                (drive_Halt N r16.Motor r16.Drive).bind fun (r17 : Drive) =>
                                                  some
                                                    (Sum.inl
                                                      (IntKind.i64.wrap (p5.fst + (1 : Int)),
                                                        LiftState.mk r16.Lift r16.Motor r17 r16.Brakes r16.Chain
                                                          r16.Wind r16.Line r16.Queue r16.Checks r16.Time r16.Mode
                                                          r16.Up r16.Off))
                                              else
                                                (lift_May N r16).bind fun (r18 : Int) =>
                                                  (bif r18 == (0 : Int) then some r16
                                                      else
                                                        (bif r18 == (13 : Int) then some (r18 == (13 : Int))
                                                            else some (r18 == (14 : Int))).bind
                                                          fun (r19 : Bool) =>
                                                          (bif r19 then
                                                                (drive_Emergency N r16.Motor r16.Drive).bind
                                                                  fun (r20 : Drive) =>
                                                                  some
                                                                    (LiftState.mk r16.Lift r16.Motor r20 r16.Brakes
                                                                      r16.Chain r16.Wind r16.Line r16.Queue r16.Checks
                                                                      r16.Time r16.Mode r16.Up r16.Off)
                                                              else
                                                                (drive_Halt N r16.Motor r16.Drive).bind
                                                                  fun (r21 : Drive) =>
                                                                  some
                                                                    (LiftState.mk r16.Lift r16.Motor r21 r16.Brakes
                                                                      r16.Chain r16.Wind r16.Line r16.Queue r16.Checks
                                                                      r16.Time r16.Mode r16.Up r16.Off)).bind
                                                            fun (r22 : LiftState) => some r22).bind
                                                    fun (r23 : LiftState) =>
                                                    some (Sum.inl (IntKind.i64.wrap (p5.fst + (1 : Int)), r23)))
                                    (fun (p24 : Int × LiftState) => some (Sum.inr (Sum.inr p24))) r11
                      else some (Sum.inr (Sum.inl p5.snd)))
                    ((0 : Int), r3)).bind
                fun (r25 : LiftState ⊕ Int × LiftState) =>
                Sum.elim
                  (fun (p26 : LiftState) =>
                    (bif decide (p26.Up > (1125899906842624 : Int)) then some true
                        else some (decide (p26.Off > (1125899906842624 : Int)))).bind
                      fun (r27 : Bool) =>
                      bif r27 then some (z_LiftState, (12 : Int))
                      else
                        (bif x1.Kind != (1 : Int) then
                              (chain_Expire N p26.Chain p26.Time).bind fun (r28 : Chain) =>
                                (bif p26.Mode == (3 : Int) then
                                      (rope_People N p26.Line).bind fun (r29 : Int) => some (r29 == (0 : Int))
                                    else some false).bind
                                  fun (r30 : Bool) =>
                                  (bif r30 then
                                        some
                                          (LiftState.mk p26.Lift p26.Motor p26.Drive p26.Brakes r28 p26.Wind p26.Line
                                            p26.Queue p26.Checks p26.Time (0 : Int) p26.Up p26.Off)
                                      else
                                        some
                                          (LiftState.mk p26.Lift p26.Motor p26.Drive p26.Brakes r28 p26.Wind p26.Line
                                            p26.Queue p26.Checks p26.Time p26.Mode p26.Up p26.Off)).bind
                                    fun (r31 : LiftState) =>
                                    bif r31.Drive.State != (1 : Int) then some r31
                                    else
                                      bif r31.Mode == (0 : Int) then
                                        (drive_Halt N r31.Motor r31.Drive).bind fun (r32 : Drive) =>
                                          some
                                            (LiftState.mk r31.Lift r31.Motor r32 r31.Brakes r31.Chain r31.Wind r31.Line
                                              r31.Queue r31.Checks r31.Time r31.Mode r31.Up r31.Off)
                                      else
                                        (lift_May N r31).bind fun (r33 : Int) =>
                                          (bif r33 == (0 : Int) then some r31
                                              else
                                                (bif r33 == (13 : Int) then some (r33 == (13 : Int))
                                                    else some (r33 == (14 : Int))).bind
                                                  fun (r34 : Bool) =>
                                                  (bif r34 then
                                                        (drive_Emergency N r31.Motor r31.Drive).bind
                                                          fun (r35 : Drive) =>
                                                          some
                                                            (LiftState.mk r31.Lift r31.Motor r35 r31.Brakes r31.Chain
                                                              r31.Wind r31.Line r31.Queue r31.Checks r31.Time r31.Mode
                                                              r31.Up r31.Off)
                                                      else
                                                        (drive_Halt N r31.Motor r31.Drive).bind fun (r36 : Drive) =>
                                                          some
                                                            (LiftState.mk r31.Lift r31.Motor r36 r31.Brakes r31.Chain
                                                              r31.Wind r31.Line r31.Queue r31.Checks r31.Time r31.Mode
                                                              r31.Up r31.Off)).bind
                                                    fun (r37 : LiftState) => some r37).bind
                                            fun (r38 : LiftState) => some r38
                            else some p26).bind
                          fun (r39 : LiftState) => some (r39, (0 : Int)))
                  (fun (p40 : Int × LiftState) =>
                    bif p40.fst != (0 : Int) then some (z_LiftState, p40.fst)
                    else
                      (bif x1.Kind != (1 : Int) then
                            (chain_Expire N p40.snd.Chain p40.snd.Time).bind fun (r41 : Chain) =>
                              (bif p40.snd.Mode == (3 : Int) then
                                    (rope_People N p40.snd.Line).bind fun (r42 : Int) => some (r42 == (0 : Int))
                                  else some false).bind
                                fun (r43 : Bool) =>
                                (bif r43 then
                                      some
                                        (LiftState.mk p40.snd.Lift p40.snd.Motor p40.snd.Drive p40.snd.Brakes r41
                                          p40.snd.Wind p40.snd.Line p40.snd.Queue p40.snd.Checks p40.snd.Time (0 : Int)
                                          p40.snd.Up p40.snd.Off)
                                    else
                                      some
                                        (LiftState.mk p40.snd.Lift p40.snd.Motor p40.snd.Drive p40.snd.Brakes r41
                                          p40.snd.Wind p40.snd.Line p40.snd.Queue p40.snd.Checks p40.snd.Time
                                          p40.snd.Mode p40.snd.Up p40.snd.Off)).bind
                                  fun (r44 : LiftState) =>
                                  bif r44.Drive.State != (1 : Int) then some r44
                                  else
                                    bif r44.Mode == (0 : Int) then
                                      (drive_Halt N r44.Motor r44.Drive).bind fun (r45 : Drive) =>
                                        some
                                          (LiftState.mk r44.Lift r44.Motor r45 r44.Brakes r44.Chain r44.Wind r44.Line
                                            r44.Queue r44.Checks r44.Time r44.Mode r44.Up r44.Off)
                                    else
                                      (lift_May N r44).bind fun (r46 : Int) =>
                                        (bif r46 == (0 : Int) then some r44
                                            else
                                              (bif r46 == (13 : Int) then some (r46 == (13 : Int))
                                                  else some (r46 == (14 : Int))).bind
                                                fun (r47 : Bool) =>
                                                (bif r47 then
                                                      (drive_Emergency N r44.Motor r44.Drive).bind fun (r48 : Drive) =>
                                                        some
                                                          (LiftState.mk r44.Lift r44.Motor r48 r44.Brakes r44.Chain
                                                            r44.Wind r44.Line r44.Queue r44.Checks r44.Time r44.Mode
                                                            r44.Up r44.Off)
                                                    else
                                                      (drive_Halt N r44.Motor r44.Drive).bind fun (r49 : Drive) =>
                                                        some
                                                          (LiftState.mk r44.Lift r44.Motor r49 r44.Brakes r44.Chain
                                                            r44.Wind r44.Line r44.Queue r44.Checks r44.Time r44.Mode
                                                            r44.Up r44.Off)).bind
                                                  fun (r50 : LiftState) => some r50).bind
                                          fun (r51 : LiftState) => some r51
                          else some p40.snd).bind
                        fun (r52 : LiftState) => some (r52, (0 : Int)))
                  r25
        else
          (bif x1.Kind == (2 : Int) then some (x1.Kind == (2 : Int))
              else
                (bif x1.Kind == (3 : Int) then some (x1.Kind == (3 : Int))
                    else
                      (bif x1.Kind == (17 : Int) then some (x1.Kind == (17 : Int))
                          else
                            (bif x1.Kind == (18 : Int) then some (x1.Kind == (18 : Int))
                                else some (x1.Kind == (19 : Int))).bind
                              fun (r53 : Bool) => some r53).bind
                        fun (r54 : Bool) => some r54).bind
                  fun (r55 : Bool) => some r55).bind
            fun (r56 : Bool) =>
            bif r56 then
              (bif x1.Kind == (2 : Int) then
                    bif r3.Mode != (0 : Int) then some (Sum.inr ((10 : Int), r3))
                    else
                      (lift_May N r3).bind fun (r57 : Int) =>
                        bif r57 != (0 : Int) then some (Sum.inr (r57, r3))
                        else
                          some
                            (Sum.inl
                              (LiftState.mk r3.Lift r3.Motor r3.Drive r3.Brakes r3.Chain r3.Wind r3.Line r3.Queue
                                r3.Checks r3.Time (1 : Int) r3.Up r3.Off))
                  else
                    (bif x1.Kind == (3 : Int) then
                          bif r3.Mode != (1 : Int) then some (Sum.inr ((10 : Int), r3))
                          else
                            some
                              (Sum.inl
                                (LiftState.mk r3.Lift r3.Motor r3.Drive r3.Brakes r3.Chain r3.Wind r3.Line z_Queue
                                  r3.Checks r3.Time (3 : Int) r3.Up r3.Off))
                        else
                          bif x1.Kind == (17 : Int) then
                            (bif r3.Mode == (0 : Int) then some true else some (r3.Mode == (2 : Int))).bind
                              fun (r58 : Bool) =>
                              bif r58 then some (Sum.inr ((10 : Int), r3))
                              else
                                bif r3.Drive.Speed != (0 : Int) then some (Sum.inr ((13 : Int), r3))
                                else
                                  (bif r3.Drive.State == (1 : Int) then some (decide (r3.Drive.Target > (1000 : Int)))
                                      else some false).bind
                                    fun (r59 : Bool) =>
                                    (bif r59 then
                                          (drive_Halt N r3.Motor r3.Drive).bind fun (r60 : Drive) =>
                                            some
                                              (LiftState.mk r3.Lift r3.Motor r60 r3.Brakes r3.Chain r3.Wind r3.Line
                                                z_Queue r3.Checks r3.Time (2 : Int) r3.Up r3.Off)
                                        else
                                          some
                                            (LiftState.mk r3.Lift r3.Motor r3.Drive r3.Brakes r3.Chain r3.Wind r3.Line
                                              z_Queue r3.Checks r3.Time (2 : Int) r3.Up r3.Off)).bind
                                      fun (r61 : LiftState) => some (Sum.inr ((0 : Int), r61))
                          else
                            bif x1.Kind == (18 : Int) then
                              bif r3.Mode != (2 : Int) then some (Sum.inr ((10 : Int), r3))
                              else
                                bif r3.Drive.Speed != (0 : Int) then some (Sum.inr ((13 : Int), r3))
                                else
                                  (rope_Take N r3.Line x1.M x1.N).bind fun (r62 : Line × Int) =>
                                    bif r62.snd != (0 : Int) then some (Sum.inr (r62.snd, r3))
                                    else
                                      bif decide (IntKind.i64.wrap (r3.Off + x1.N) > (1125899906842624 : Int)) then
                                        some (Sum.inr ((12 : Int), r3))
                                      else
                                        some
                                          (Sum.inr
                                            ((0 : Int),
                                              LiftState.mk r3.Lift r3.Motor r3.Drive r3.Brakes r3.Chain r3.Wind r62.fst
                                                r3.Queue r3.Checks r3.Time r3.Mode r3.Up
                                                (IntKind.i64.wrap (r3.Off + x1.N))))
                            else
                              (bif x1.Kind == (19 : Int) then
                                    bif r3.Mode != (2 : Int) then some (Sum.inr ((10 : Int), r3))
                                    else
                                      (rope_People N r3.Line).bind fun (r63 : Int) =>
                                        bif decide (r63 > (0 : Int)) then some (Sum.inr ((13 : Int), r3))
                                        else
                                          some
                                            (Sum.inl
                                              (LiftState.mk r3.Lift r3.Motor r3.Drive r3.Brakes r3.Chain r3.Wind r3.Line
                                                r3.Queue r3.Checks r3.Time (0 : Int) r3.Up r3.Off))
                                  else some (Sum.inl r3)).bind
                                fun (r64 : LiftState ⊕ Int × LiftState) =>
                                Sum.elim (fun (p65 : LiftState) => some (Sum.inl p65))
                                  (fun (p66 : Int × LiftState) => some (Sum.inr p66)) r64).bind
                      fun (r67 : LiftState ⊕ Int × LiftState) =>
                      Sum.elim (fun (p68 : LiftState) => some (Sum.inl p68))
                        (fun (p69 : Int × LiftState) => some (Sum.inr p69)) r67).bind
                fun (r70 : LiftState ⊕ Int × LiftState) =>
                Sum.elim
                  (fun (p71 : LiftState) =>
                    (bif x1.Kind != (1 : Int) then
                          (chain_Expire N p71.Chain p71.Time).bind fun (r72 : Chain) =>
                            (bif p71.Mode == (3 : Int) then
                                  (rope_People N p71.Line).bind fun (r73 : Int) => some (r73 == (0 : Int))
                                else some false).bind
                              fun (r74 : Bool) =>
                              (bif r74 then
                                    some
                                      (LiftState.mk p71.Lift p71.Motor p71.Drive p71.Brakes r72 p71.Wind p71.Line
                                        p71.Queue p71.Checks p71.Time (0 : Int) p71.Up p71.Off)
                                  else
                                    some
                                      (LiftState.mk p71.Lift p71.Motor p71.Drive p71.Brakes r72 p71.Wind p71.Line
                                        p71.Queue p71.Checks p71.Time p71.Mode p71.Up p71.Off)).bind
                                fun (r75 : LiftState) =>
                                bif r75.Drive.State != (1 : Int) then some r75
                                else
                                  bif r75.Mode == (0 : Int) then
                                    (drive_Halt N r75.Motor r75.Drive).bind fun (r76 : Drive) =>
                                      some
                                        (LiftState.mk r75.Lift r75.Motor r76 r75.Brakes r75.Chain r75.Wind r75.Line
                                          r75.Queue r75.Checks r75.Time r75.Mode r75.Up r75.Off)
                                  else
                                    (lift_May N r75).bind fun (r77 : Int) =>
                                      (bif r77 == (0 : Int) then some r75
                                          else
                                            (bif r77 == (13 : Int) then some (r77 == (13 : Int))
                                                else some (r77 == (14 : Int))).bind
                                              fun (r78 : Bool) =>
                                              (bif r78 then
                                                    (drive_Emergency N r75.Motor r75.Drive).bind fun (r79 : Drive) =>
                                                      some
                                                        (LiftState.mk r75.Lift r75.Motor r79 r75.Brakes r75.Chain
                                                          r75.Wind r75.Line r75.Queue r75.Checks r75.Time r75.Mode
                                                          r75.Up r75.Off)
                                                  else
                                                    (drive_Halt N r75.Motor r75.Drive).bind fun (r80 : Drive) =>
                                                      some
                                                        (LiftState.mk r75.Lift r75.Motor r80 r75.Brakes r75.Chain
                                                          r75.Wind r75.Line r75.Queue r75.Checks r75.Time r75.Mode
                                                          r75.Up r75.Off)).bind
                                                fun (r81 : LiftState) => some r81).bind
                                        fun (r82 : LiftState) => some r82
                        else some p71).bind
                      fun (r83 : LiftState) => some (r83, (0 : Int)))
                  (fun (p84 : Int × LiftState) =>
                    bif p84.fst != (0 : Int) then some (z_LiftState, p84.fst)
                    else
                      (bif x1.Kind != (1 : Int) then
                            (chain_Expire N p84.snd.Chain p84.snd.Time).bind fun (r85 : Chain) =>
                              (bif p84.snd.Mode == (3 : Int) then
                                    (rope_People N p84.snd.Line).bind fun (r86 : Int) => some (r86 == (0 : Int))
                                  else some false).bind
                                fun (r87 : Bool) =>
                                (bif r87 then
                                      some
                                        (LiftState.mk p84.snd.Lift p84.snd.Motor p84.snd.Drive p84.snd.Brakes r85
                                          p84.snd.Wind p84.snd.Line p84.snd.Queue p84.snd.Checks p84.snd.Time (0 : Int)
                                          p84.snd.Up p84.snd.Off)
                                    else
                                      some
                                        (LiftState.mk p84.snd.Lift p84.snd.Motor p84.snd.Drive p84.snd.Brakes r85
                                          p84.snd.Wind p84.snd.Line p84.snd.Queue p84.snd.Checks p84.snd.Time
                                          p84.snd.Mode p84.snd.Up p84.snd.Off)).bind
                                  fun (r88 : LiftState) =>
                                  bif r88.Drive.State != (1 : Int) then some r88
                                  else
                                    bif r88.Mode == (0 : Int) then
                                      (drive_Halt N r88.Motor r88.Drive).bind fun (r89 : Drive) =>
                                        some
                                          (LiftState.mk r88.Lift r88.Motor r89 r88.Brakes r88.Chain r88.Wind r88.Line
                                            r88.Queue r88.Checks r88.Time r88.Mode r88.Up r88.Off)
                                    else
                                      (lift_May N r88).bind fun (r90 : Int) =>
                                        (bif r90 == (0 : Int) then some r88
                                            else
                                              (bif r90 == (13 : Int) then some (r90 == (13 : Int))
                                                  else some (r90 == (14 : Int))).bind
                                                fun (r91 : Bool) =>
                                                (bif r91 then
                                                      (drive_Emergency N r88.Motor r88.Drive).bind fun (r92 : Drive) =>
                                                        some
                                                          (LiftState.mk r88.Lift r88.Motor r92 r88.Brakes r88.Chain
                                                            r88.Wind r88.Line r88.Queue r88.Checks r88.Time r88.Mode
                                                            r88.Up r88.Off)
                                                    else
                                                      (drive_Halt N r88.Motor r88.Drive).bind fun (r93 : Drive) =>
                                                        some
                                                          (LiftState.mk r88.Lift r88.Motor r93 r88.Brakes r88.Chain
                                                            r88.Wind r88.Line r88.Queue r88.Checks r88.Time r88.Mode
                                                            r88.Up r88.Off)).bind
                                                  fun (r94 : LiftState) => some r94).bind
                                          fun (r95 : LiftState) => some r95
                          else some p84.snd).bind
                        fun (r96 : LiftState) => some (r96, (0 : Int)))
                  r70
            else
              (bif x1.Kind == (4 : Int) then some (x1.Kind == (4 : Int))
                  else
                    (bif x1.Kind == (5 : Int) then some (x1.Kind == (5 : Int))
                        else
                          (bif x1.Kind == (6 : Int) then some (x1.Kind == (6 : Int))
                              else some (x1.Kind == (7 : Int))).bind
                            fun (r97 : Bool) => some r97).bind
                      fun (r98 : Bool) => some r98).bind
                fun (r99 : Bool) =>
                bif r99 then
                  (bif x1.Kind == (4 : Int) then
                        bif r3.Mode == (0 : Int) then some (Sum.inr ((10 : Int), r3))
                        else
                          (bif r3.Mode == (2 : Int) then some (decide (x1.N > (1000 : Int))) else some false).bind
                            fun (r100 : Bool) =>
                            bif r100 then some (Sum.inr ((2 : Int), r3))
                            else
                              (lift_May N r3).bind fun (r101 : Int) =>
                                bif r101 != (0 : Int) then some (Sum.inr (r101, r3))
                                else
                                  (drive_Start N r3.Motor r3.Drive x1.N).bind fun (r102 : Drive × Int) =>
                                    some
                                      (Sum.inl
                                        (r102.snd,
                                          LiftState.mk r3.Lift r3.Motor r102.fst r3.Brakes r3.Chain r3.Wind r3.Line
                                            r3.Queue r3.Checks r3.Time r3.Mode r3.Up r3.Off))
                      else
                        (bif x1.Kind == (5 : Int) then
                              (drive_Halt N r3.Motor r3.Drive).bind fun (r103 : Drive) =>
                                some
                                  ((0 : Int),
                                    LiftState.mk r3.Lift r3.Motor r103 r3.Brakes r3.Chain r3.Wind r3.Line r3.Queue
                                      r3.Checks r3.Time r3.Mode r3.Up r3.Off)
                            else
                              (bif x1.Kind == (6 : Int) then
                                    (drive_Emergency N r3.Motor r3.Drive).bind fun (r104 : Drive) =>
                                      some
                                        ((0 : Int),
                                          LiftState.mk r3.Lift r3.Motor r104 r3.Brakes r3.Chain r3.Wind r3.Line r3.Queue
                                            r3.Checks r3.Time r3.Mode r3.Up r3.Off)
                                  else
                                    (bif x1.Kind == (7 : Int) then
                                          (drive_Reset N r3.Motor r3.Drive).bind fun (r105 : Drive × Int) =>
                                            some
                                              (r105.snd,
                                                LiftState.mk r3.Lift r3.Motor r105.fst r3.Brakes r3.Chain r3.Wind
                                                  r3.Line r3.Queue r3.Checks r3.Time r3.Mode r3.Up r3.Off)
                                        else some ((0 : Int), r3)).bind
                                      fun (r106 : Int × LiftState) => some r106).bind
                                fun (r107 : Int × LiftState) => some r107).bind
                          fun (r108 : Int × LiftState) => some (Sum.inl r108)).bind
                    fun (r109 : Int × LiftState ⊕ Int × LiftState) =>
                    Sum.elim
                      (fun (p110 : Int × LiftState) =>
                        bif p110.fst != (0 : Int) then some (z_LiftState, p110.fst)
                        else
                          (bif x1.Kind != (1 : Int) then
                                (chain_Expire N p110.snd.Chain p110.snd.Time).bind fun (r111 : Chain) =>
                                  (bif p110.snd.Mode == (3 : Int) then
                                        (rope_People N p110.snd.Line).bind fun (r112 : Int) => some (r112 == (0 : Int))
                                      else some false).bind
                                    fun (r113 : Bool) =>
                                    (bif r113 then
                                          some
                                            (LiftState.mk p110.snd.Lift p110.snd.Motor p110.snd.Drive p110.snd.Brakes
                                              r111 p110.snd.Wind p110.snd.Line p110.snd.Queue p110.snd.Checks
                                              p110.snd.Time (0 : Int) p110.snd.Up p110.snd.Off)
                                        else
                                          some
                                            (LiftState.mk p110.snd.Lift p110.snd.Motor p110.snd.Drive p110.snd.Brakes
                                              r111 p110.snd.Wind p110.snd.Line p110.snd.Queue p110.snd.Checks
                                              p110.snd.Time p110.snd.Mode p110.snd.Up p110.snd.Off)).bind
                                      fun (r114 : LiftState) =>
                                      bif r114.Drive.State != (1 : Int) then some r114
                                      else
                                        bif r114.Mode == (0 : Int) then
                                          (drive_Halt N r114.Motor r114.Drive).bind fun (r115 : Drive) =>
                                            some
                                              (LiftState.mk r114.Lift r114.Motor r115 r114.Brakes r114.Chain r114.Wind
                                                r114.Line r114.Queue r114.Checks r114.Time r114.Mode r114.Up r114.Off)
                                        else
                                          (lift_May N r114).bind fun (r116 : Int) =>
                                            (bif r116 == (0 : Int) then some r114
                                                else
                                                  (bif r116 == (13 : Int) then some (r116 == (13 : Int))
                                                      else some (r116 == (14 : Int))).bind
                                                    fun (r117 : Bool) =>
                                                    (bif r117 then
                                                          (drive_Emergency N r114.Motor r114.Drive).bind
                                                            fun (r118 : Drive) =>
                                                            some
                                                              (LiftState.mk r114.Lift r114.Motor r118 r114.Brakes
                                                                r114.Chain r114.Wind r114.Line r114.Queue r114.Checks
                                                                r114.Time r114.Mode r114.Up r114.Off)
                                                        else
                                                          (drive_Halt N r114.Motor r114.Drive).bind
                                                            fun (r119 : Drive) =>
                                                            some
                                                              (LiftState.mk r114.Lift r114.Motor r119 r114.Brakes
                                                                r114.Chain r114.Wind r114.Line r114.Queue r114.Checks
                                                                r114.Time r114.Mode r114.Up r114.Off)).bind
                                                      fun (r120 : LiftState) => some r120).bind
                                              fun (r121 : LiftState) => some r121
                              else some p110.snd).bind
                            fun (r122 : LiftState) => some (r122, (0 : Int)))
                      (fun (p123 : Int × LiftState) =>
                        bif p123.fst != (0 : Int) then some (z_LiftState, p123.fst)
                        else
                          (bif x1.Kind != (1 : Int) then
                                (chain_Expire N p123.snd.Chain p123.snd.Time).bind fun (r124 : Chain) =>
                                  (bif p123.snd.Mode == (3 : Int) then
                                        (rope_People N p123.snd.Line).bind fun (r125 : Int) => some (r125 == (0 : Int))
                                      else some false).bind
                                    fun (r126 : Bool) =>
                                    (bif r126 then
                                          some
                                            (LiftState.mk p123.snd.Lift p123.snd.Motor p123.snd.Drive p123.snd.Brakes
                                              r124 p123.snd.Wind p123.snd.Line p123.snd.Queue p123.snd.Checks
                                              p123.snd.Time (0 : Int) p123.snd.Up p123.snd.Off)
                                        else
                                          some
                                            (LiftState.mk p123.snd.Lift p123.snd.Motor p123.snd.Drive p123.snd.Brakes
                                              r124 p123.snd.Wind p123.snd.Line p123.snd.Queue p123.snd.Checks
                                              p123.snd.Time p123.snd.Mode p123.snd.Up p123.snd.Off)).bind
                                      fun (r127 : LiftState) =>
                                      bif r127.Drive.State != (1 : Int) then some r127
                                      else
                                        bif r127.Mode == (0 : Int) then
                                          (drive_Halt N r127.Motor r127.Drive).bind fun (r128 : Drive) =>
                                            some
                                              (LiftState.mk r127.Lift r127.Motor r128 r127.Brakes r127.Chain r127.Wind
                                                r127.Line r127.Queue r127.Checks r127.Time r127.Mode r127.Up r127.Off)
                                        else
                                          (lift_May N r127).bind fun (r129 : Int) =>
                                            (bif r129 == (0 : Int) then some r127
                                                else
                                                  (bif r129 == (13 : Int) then some (r129 == (13 : Int))
                                                      else some (r129 == (14 : Int))).bind
                                                    fun (r130 : Bool) =>
                                                    (bif r130 then
                                                          (drive_Emergency N r127.Motor r127.Drive).bind
                                                            fun (r131 : Drive) =>
                                                            some
                                                              (LiftState.mk r127.Lift r127.Motor r131 r127.Brakes
                                                                r127.Chain r127.Wind r127.Line r127.Queue r127.Checks
                                                                r127.Time r127.Mode r127.Up r127.Off)
                                                        else
                                                          (drive_Halt N r127.Motor r127.Drive).bind
                                                            fun (r132 : Drive) =>
                                                            some
                                                              (LiftState.mk r127.Lift r127.Motor r132 r127.Brakes
                                                                r127.Chain r127.Wind r127.Line r127.Queue r127.Checks
                                                                r127.Time r127.Mode r127.Up r127.Off)).bind
                                                      fun (r133 : LiftState) => some r133).bind
                                              fun (r134 : LiftState) => some r134
                              else some p123.snd).bind
                            fun (r135 : LiftState) => some (r135, (0 : Int)))
                      r109
                else
                  (bif x1.Kind == (8 : Int) then some (x1.Kind == (8 : Int))
                      else
                        (bif x1.Kind == (9 : Int) then some (x1.Kind == (9 : Int))
                            else
                              (bif x1.Kind == (10 : Int) then some (x1.Kind == (10 : Int))
                                  else
                                    (bif x1.Kind == (11 : Int) then some (x1.Kind == (11 : Int))
                                        else some (x1.Kind == (12 : Int))).bind
                                      fun (r136 : Bool) => some r136).bind
                                fun (r137 : Bool) => some r137).bind
                          fun (r138 : Bool) => some r138).bind
                    fun (r139 : Bool) =>
                    bif r139 then
                      (bif x1.Kind == (8 : Int) then
                            (chain_Break N r3.Chain x1.N).bind fun (r140 : Chain × Int) =>
                              some
                                (Sum.inl
                                  (r140.snd,
                                    LiftState.mk r3.Lift r3.Motor r3.Drive r3.Brakes r140.fst r3.Wind r3.Line r3.Queue
                                      r3.Checks r3.Time r3.Mode r3.Up r3.Off))
                          else
                            (bif x1.Kind == (9 : Int) then
                                  (chain_Make N r3.Chain x1.N).bind fun (r141 : Chain × Int) =>
                                    some
                                      (Sum.inl
                                        (r141.snd,
                                          LiftState.mk r3.Lift r3.Motor r3.Drive r3.Brakes r141.fst r3.Wind r3.Line
                                            r3.Queue r3.Checks r3.Time r3.Mode r3.Up r3.Off))
                                else
                                  (bif x1.Kind == (10 : Int) then
                                        (chain_Clear N r3.Chain x1.N x1.By).bind fun (r142 : Chain × Int) =>
                                          some
                                            (Sum.inl
                                              (r142.snd,
                                                LiftState.mk r3.Lift r3.Motor r3.Drive r3.Brakes r142.fst r3.Wind
                                                  r3.Line r3.Queue r3.Checks r3.Time r3.Mode r3.Up r3.Off))
                                      else
                                        (bif x1.Kind == (11 : Int) then
                                              (chain_Take N r3.Chain x1.By).bind fun (r143 : Chain × Int) =>
                                                some
                                                  (Sum.inl
                                                    (r143.snd,
                                                      LiftState.mk r3.Lift r3.Motor r3.Drive r3.Brakes r143.fst r3.Wind
                                                        r3.Line r3.Queue r3.Checks r3.Time r3.Mode r3.Up r3.Off))
                                            else
                                              (bif x1.Kind == (12 : Int) then
                                                    (bif decide (x1.M < (1 : Int)) then some true
                                                        else some (decide (x1.M > (3600 : Int)))).bind
                                                      fun (r144 : Bool) =>
                                                      bif r144 then some (Sum.inr ((2 : Int), r3))
                                                      else
                                                        (chain_Bypass N r3.Chain x1.N x1.By
                                                              (IntKind.i64.wrap (r3.Time + x1.M))).bind
                                                          fun (r145 : Chain × Int) =>
                                                          some
                                                            (Sum.inl
                                                              (r145.snd,
                                                                LiftState.mk r3.Lift r3.Motor r3.Drive r3.Brakes
                                                                  r145.fst r3.Wind r3.Line r3.Queue r3.Checks r3.Time
                                                                  r3.Mode r3.Up r3.Off))
                                                  else some (Sum.inl ((0 : Int), r3))).bind
                                                fun (r146 : Int × LiftState ⊕ Int × LiftState) =>
                                                Sum.elim (fun (p147 : Int × LiftState) => some (Sum.inl p147))
                                                  (fun (p148 : Int × LiftState) => some (Sum.inr p148)) r146).bind
                                          fun (r149 : Int × LiftState ⊕ Int × LiftState) =>
                                          Sum.elim (fun (p150 : Int × LiftState) => some (Sum.inl p150))
                                            (fun (p151 : Int × LiftState) => some (Sum.inr p151)) r149).bind
                                    fun (r152 : Int × LiftState ⊕ Int × LiftState) =>
                                    Sum.elim (fun (p153 : Int × LiftState) => some (Sum.inl p153))
                                      (fun (p154 : Int × LiftState) => some (Sum.inr p154)) r152).bind
                              fun (r155 : Int × LiftState ⊕ Int × LiftState) =>
                              Sum.elim (fun (p156 : Int × LiftState) => some (Sum.inl p156))
                                (fun (p157 : Int × LiftState) => some (Sum.inr p157)) r155).bind
                        fun (r158 : Int × LiftState ⊕ Int × LiftState) =>
                        Sum.elim
                          (fun (p159 : Int × LiftState) =>
                            bif p159.fst != (0 : Int) then some (z_LiftState, p159.fst)
                            else
                              (bif x1.Kind != (1 : Int) then
                                    (chain_Expire N p159.snd.Chain p159.snd.Time).bind fun (r160 : Chain) =>
                                      (bif p159.snd.Mode == (3 : Int) then
                                            (rope_People N p159.snd.Line).bind fun (r161 : Int) =>
                                              some (r161 == (0 : Int))
                                          else some false).bind
                                        fun (r162 : Bool) =>
                                        (bif r162 then
                                              some
                                                (LiftState.mk p159.snd.Lift p159.snd.Motor p159.snd.Drive
                                                  p159.snd.Brakes r160 p159.snd.Wind p159.snd.Line p159.snd.Queue
                                                  p159.snd.Checks p159.snd.Time (0 : Int) p159.snd.Up p159.snd.Off)
                                            else
                                              some
                                                (LiftState.mk p159.snd.Lift p159.snd.Motor p159.snd.Drive
                                                  p159.snd.Brakes r160 p159.snd.Wind p159.snd.Line p159.snd.Queue
                                                  p159.snd.Checks p159.snd.Time p159.snd.Mode p159.snd.Up
                                                  p159.snd.Off)).bind
                                          fun (r163 : LiftState) =>
                                          bif r163.Drive.State != (1 : Int) then some r163
                                          else
                                            bif r163.Mode == (0 : Int) then
                                              (drive_Halt N r163.Motor r163.Drive).bind fun (r164 : Drive) =>
                                                some
                                                  (LiftState.mk r163.Lift r163.Motor r164 r163.Brakes r163.Chain
                                                    r163.Wind r163.Line r163.Queue r163.Checks r163.Time r163.Mode
                                                    r163.Up r163.Off)
                                            else
                                              (lift_May N r163).bind fun (r165 : Int) =>
                                                (bif r165 == (0 : Int) then some r163
                                                    else
                                                      (bif r165 == (13 : Int) then some (r165 == (13 : Int))
                                                          else some (r165 == (14 : Int))).bind
                                                        fun (r166 : Bool) =>
                                                        (bif r166 then
                                                              (drive_Emergency N r163.Motor r163.Drive).bind
                                                                fun (r167 : Drive) =>
                                                                some
                                                                  (LiftState.mk r163.Lift r163.Motor r167 r163.Brakes
                                                                    r163.Chain r163.Wind r163.Line r163.Queue
                                                                    r163.Checks r163.Time r163.Mode r163.Up r163.Off)
                                                            else
                                                              (drive_Halt N r163.Motor r163.Drive).bind
                                                                fun (r168 : Drive) =>
                                                                some
                                                                  (LiftState.mk r163.Lift r163.Motor r168 r163.Brakes
                                                                    r163.Chain r163.Wind r163.Line r163.Queue
                                                                    r163.Checks r163.Time r163.Mode r163.Up
                                                                    r163.Off)).bind
                                                          fun (r169 : LiftState) => some r169).bind
                                                  fun (r170 : LiftState) => some r170
                                  else some p159.snd).bind
                                fun (r171 : LiftState) => some (r171, (0 : Int)))
                          (fun (p172 : Int × LiftState) =>
                            bif p172.fst != (0 : Int) then some (z_LiftState, p172.fst)
                            else
                              (bif x1.Kind != (1 : Int) then
                                    (chain_Expire N p172.snd.Chain p172.snd.Time).bind fun (r173 : Chain) =>
                                      (bif p172.snd.Mode == (3 : Int) then
                                            (rope_People N p172.snd.Line).bind fun (r174 : Int) =>
                                              some (r174 == (0 : Int))
                                          else some false).bind
                                        fun (r175 : Bool) =>
                                        (bif r175 then
                                              some
                                                (LiftState.mk p172.snd.Lift p172.snd.Motor p172.snd.Drive
                                                  p172.snd.Brakes r173 p172.snd.Wind p172.snd.Line p172.snd.Queue
                                                  p172.snd.Checks p172.snd.Time (0 : Int) p172.snd.Up p172.snd.Off)
                                            else
                                              some
                                                (LiftState.mk p172.snd.Lift p172.snd.Motor p172.snd.Drive
                                                  p172.snd.Brakes r173 p172.snd.Wind p172.snd.Line p172.snd.Queue
                                                  p172.snd.Checks p172.snd.Time p172.snd.Mode p172.snd.Up
                                                  p172.snd.Off)).bind
                                          fun (r176 : LiftState) =>
                                          bif r176.Drive.State != (1 : Int) then some r176
                                          else
                                            bif r176.Mode == (0 : Int) then
                                              (drive_Halt N r176.Motor r176.Drive).bind fun (r177 : Drive) =>
                                                some
                                                  (LiftState.mk r176.Lift r176.Motor r177 r176.Brakes r176.Chain
                                                    r176.Wind r176.Line r176.Queue r176.Checks r176.Time r176.Mode
                                                    r176.Up r176.Off)
                                            else
                                              (lift_May N r176).bind fun (r178 : Int) =>
                                                (bif r178 == (0 : Int) then some r176
                                                    else
                                                      (bif r178 == (13 : Int) then some (r178 == (13 : Int))
                                                          else some (r178 == (14 : Int))).bind
                                                        fun (r179 : Bool) =>
                                                        (bif r179 then
                                                              (drive_Emergency N r176.Motor r176.Drive).bind
                                                                fun (r180 : Drive) =>
                                                                some
                                                                  (LiftState.mk r176.Lift r176.Motor r180 r176.Brakes
                                                                    r176.Chain r176.Wind r176.Line r176.Queue
                                                                    r176.Checks r176.Time r176.Mode r176.Up r176.Off)
                                                            else
                                                              (drive_Halt N r176.Motor r176.Drive).bind
                                                                fun (r181 : Drive) =>
                                                                some
                                                                  (LiftState.mk r176.Lift r176.Motor r181 r176.Brakes
                                                                    r176.Chain r176.Wind r176.Line r176.Queue
                                                                    r176.Checks r176.Time r176.Mode r176.Up
                                                                    r176.Off)).bind
                                                          fun (r182 : LiftState) => some r182).bind
                                                  fun (r183 : LiftState) => some r183
                                  else some p172.snd).bind
                                fun (r184 : LiftState) => some (r184, (0 : Int)))
                          r158
                    else
                      (bif x1.Kind == (13 : Int) then some (x1.Kind == (13 : Int))
                          else
                            (bif x1.Kind == (14 : Int) then some (x1.Kind == (14 : Int))
                                else
                                  (bif x1.Kind == (15 : Int) then some (x1.Kind == (15 : Int))
                                      else some (x1.Kind == (16 : Int))).bind
                                    fun (r185 : Bool) => some r185).bind
                              fun (r186 : Bool) => some r186).bind
                        fun (r187 : Bool) =>
                        bif r187 then
                          (bif x1.Kind == (13 : Int) then
                                bif r3.Drive.State != (0 : Int) then some (Sum.inr ((10 : Int), r3))
                                else
                                  (brake_Test N r3.Brakes x1.N x1.M r3.Time).bind fun (r188 : List Brake × Int) =>
                                    some
                                      (Sum.inl
                                        (r188.snd,
                                          LiftState.mk r3.Lift r3.Motor r3.Drive r188.fst r3.Chain r3.Wind r3.Line
                                            r3.Queue r3.Checks r3.Time r3.Mode r3.Up r3.Off))
                              else
                                (bif x1.Kind == (14 : Int) then
                                      (weather_Update N r3.Wind x1.N r3.Time).bind fun (r189 : Alarm × Int) =>
                                        some
                                          (Sum.inl
                                            (r189.snd,
                                              LiftState.mk r3.Lift r3.Motor r3.Drive r3.Brakes r3.Chain r189.fst r3.Line
                                                r3.Queue r3.Checks r3.Time r3.Mode r3.Up r3.Off))
                                    else
                                      (bif x1.Kind == (15 : Int) then
                                            (inspect_Sign N r3.Checks x1.N x1.By r3.Time).bind
                                              fun (r190 : Checklist × Int) =>
                                              some
                                                (Sum.inl
                                                  (r190.snd,
                                                    LiftState.mk r3.Lift r3.Motor r3.Drive r3.Brakes r3.Chain r3.Wind
                                                      r3.Line r3.Queue r190.fst r3.Time r3.Mode r3.Up r3.Off))
                                          else
                                            (bif x1.Kind == (16 : Int) then
                                                  bif r3.Mode != (1 : Int) then some (Sum.inr ((10 : Int), r3))
                                                  else
                                                    (bif x1.M == (0 : Int) then
                                                          (queue_Join N r3.Queue x1.N).bind fun (r191 : Queue × Int) =>
                                                            some
                                                              (Sum.inl
                                                                (r191.snd,
                                                                  LiftState.mk r3.Lift r3.Motor r3.Drive r3.Brakes
                                                                    r3.Chain r3.Wind r3.Line r191.fst r3.Checks r3.Time
                                                                    r3.Mode r3.Up r3.Off))
                                                        else
                                                          bif x1.M == (1 : Int) then
                                                            (queue_Single N r3.Queue x1.N).bind
                                                              fun (r192 : Queue × Int) =>
                                                              some
                                                                (Sum.inl
                                                                  (r192.snd,
                                                                    LiftState.mk r3.Lift r3.Motor r3.Drive r3.Brakes
                                                                      r3.Chain r3.Wind r3.Line r192.fst r3.Checks
                                                                      r3.Time r3.Mode r3.Up r3.Off))
                                                          else some (Sum.inr ((2 : Int), r3))).bind
                                                      fun (r193 : Int × LiftState ⊕ Int × LiftState) =>
                                                      Sum.elim (fun (p194 : Int × LiftState) => some (Sum.inl p194))
                                                        (fun (p195 : Int × LiftState) => some (Sum.inr p195)) r193
                                                else some (Sum.inl ((0 : Int), r3))).bind
                                              fun (r196 : Int × LiftState ⊕ Int × LiftState) =>
                                              Sum.elim (fun (p197 : Int × LiftState) => some (Sum.inl p197))
                                                (fun (p198 : Int × LiftState) => some (Sum.inr p198)) r196).bind
                                        fun (r199 : Int × LiftState ⊕ Int × LiftState) =>
                                        Sum.elim (fun (p200 : Int × LiftState) => some (Sum.inl p200))
                                          (fun (p201 : Int × LiftState) => some (Sum.inr p201)) r199).bind
                                  fun (r202 : Int × LiftState ⊕ Int × LiftState) =>
                                  Sum.elim (fun (p203 : Int × LiftState) => some (Sum.inl p203))
                                    (fun (p204 : Int × LiftState) => some (Sum.inr p204)) r202).bind
                            fun (r205 : Int × LiftState ⊕ Int × LiftState) =>
                            Sum.elim
                              (fun (p206 : Int × LiftState) =>
                                bif p206.fst != (0 : Int) then some (z_LiftState, p206.fst)
                                else
                                  (bif x1.Kind != (1 : Int) then
                                        (chain_Expire N p206.snd.Chain p206.snd.Time).bind fun (r207 : Chain) =>
                                          (bif p206.snd.Mode == (3 : Int) then
                                                (rope_People N p206.snd.Line).bind fun (r208 : Int) =>
                                                  some (r208 == (0 : Int))
                                              else some false).bind
                                            fun (r209 : Bool) =>
                                            (bif r209 then
                                                  some
                                                    (LiftState.mk p206.snd.Lift p206.snd.Motor p206.snd.Drive
                                                      p206.snd.Brakes r207 p206.snd.Wind p206.snd.Line p206.snd.Queue
                                                      p206.snd.Checks p206.snd.Time (0 : Int) p206.snd.Up p206.snd.Off)
                                                else
                                                  some
                                                    (LiftState.mk p206.snd.Lift p206.snd.Motor p206.snd.Drive
                                                      p206.snd.Brakes r207 p206.snd.Wind p206.snd.Line p206.snd.Queue
                                                      p206.snd.Checks p206.snd.Time p206.snd.Mode p206.snd.Up
                                                      p206.snd.Off)).bind
                                              fun (r210 : LiftState) =>
                                              bif r210.Drive.State != (1 : Int) then some r210
                                              else
                                                bif r210.Mode == (0 : Int) then
                                                  (drive_Halt N r210.Motor r210.Drive).bind fun (r211 : Drive) =>
                                                    some
                                                      (LiftState.mk r210.Lift r210.Motor r211 r210.Brakes r210.Chain
                                                        r210.Wind r210.Line r210.Queue r210.Checks r210.Time r210.Mode
                                                        r210.Up r210.Off)
                                                else
                                                  (lift_May N r210).bind fun (r212 : Int) =>
                                                    (bif r212 == (0 : Int) then some r210
                                                        else
                                                          (bif r212 == (13 : Int) then some (r212 == (13 : Int))
                                                              else some (r212 == (14 : Int))).bind
                                                            fun (r213 : Bool) =>
                                                            (bif r213 then
                                                                  (drive_Emergency N r210.Motor r210.Drive).bind
                                                                    fun (r214 : Drive) =>
                                                                    some
                                                                      (LiftState.mk r210.Lift r210.Motor r214
                                                                        r210.Brakes r210.Chain r210.Wind r210.Line
                                                                        r210.Queue r210.Checks r210.Time r210.Mode
                                                                        r210.Up r210.Off)
                                                                else
                                                                  (drive_Halt N r210.Motor r210.Drive).bind
                                                                    fun (r215 : Drive) =>
                                                                    some
                                                                      (LiftState.mk r210.Lift r210.Motor r215
                                                                        r210.Brakes r210.Chain r210.Wind r210.Line
                                                                        r210.Queue r210.Checks r210.Time r210.Mode
                                                                        r210.Up r210.Off)).bind
                                                              fun (r216 : LiftState) => some r216).bind
                                                      fun (r217 : LiftState) => some r217
                                      else some p206.snd).bind
                                    fun (r218 : LiftState) => some (r218, (0 : Int)))
                              (fun (p219 : Int × LiftState) =>
                                bif p219.fst != (0 : Int) then some (z_LiftState, p219.fst)
                                else
                                  (bif x1.Kind != (1 : Int) then
                                        (chain_Expire N p219.snd.Chain p219.snd.Time).bind fun (r220 : Chain) =>
                                          (bif p219.snd.Mode == (3 : Int) then
                                                (rope_People N p219.snd.Line).bind fun (r221 : Int) =>
                                                  some (r221 == (0 : Int))
                                              else some false).bind
                                            fun (r222 : Bool) =>
                                            (bif r222 then
                                                  some
                                                    (LiftState.mk p219.snd.Lift p219.snd.Motor p219.snd.Drive
                                                      p219.snd.Brakes r220 p219.snd.Wind p219.snd.Line p219.snd.Queue
                                                      p219.snd.Checks p219.snd.Time (0 : Int) p219.snd.Up p219.snd.Off)
                                                else
                                                  some
                                                    (LiftState.mk p219.snd.Lift p219.snd.Motor p219.snd.Drive
                                                      p219.snd.Brakes r220 p219.snd.Wind p219.snd.Line p219.snd.Queue
                                                      p219.snd.Checks p219.snd.Time p219.snd.Mode p219.snd.Up
                                                      p219.snd.Off)).bind
                                              fun (r223 : LiftState) =>
                                              bif r223.Drive.State != (1 : Int) then some r223
                                              else
                                                bif r223.Mode == (0 : Int) then
                                                  (drive_Halt N r223.Motor r223.Drive).bind fun (r224 : Drive) =>
                                                    some
                                                      (LiftState.mk r223.Lift r223.Motor r224 r223.Brakes r223.Chain
                                                        r223.Wind r223.Line r223.Queue r223.Checks r223.Time r223.Mode
                                                        r223.Up r223.Off)
                                                else
                                                  (lift_May N r223).bind fun (r225 : Int) =>
                                                    (bif r225 == (0 : Int) then some r223
                                                        else
                                                          (bif r225 == (13 : Int) then some (r225 == (13 : Int))
                                                              else some (r225 == (14 : Int))).bind
                                                            fun (r226 : Bool) =>
                                                            (bif r226 then
                                                                  (drive_Emergency N r223.Motor r223.Drive).bind
                                                                    fun (r227 : Drive) =>
                                                                    some
                                                                      (LiftState.mk r223.Lift r223.Motor r227
                                                                        r223.Brakes r223.Chain r223.Wind r223.Line
                                                                        r223.Queue r223.Checks r223.Time r223.Mode
                                                                        r223.Up r223.Off)
                                                                else
                                                                  (drive_Halt N r223.Motor r223.Drive).bind
                                                                    fun (r228 : Drive) =>
                                                                    some
                                                                      (LiftState.mk r223.Lift r223.Motor r228
                                                                        r223.Brakes r223.Chain r223.Wind r223.Line
                                                                        r223.Queue r223.Checks r223.Time r223.Mode
                                                                        r223.Up r223.Off)).bind
                                                              fun (r229 : LiftState) => some r229).bind
                                                      fun (r230 : LiftState) => some r230
                                      else some p219.snd).bind
                                    fun (r231 : LiftState) => some (r231, (0 : Int)))
                              r205
                        else some (z_LiftState, (18 : Int))
theorem doS_eq (N : Nat) (s : LiftState) (e : LiftEvent) : lift_Do N s e = lift_DoS N s e := by
  unfold lift_Do lift_DoS
  simp only [whileS_eq fP_eq]
def refusesS (N : Nat) (x0 : LiftState) (x1 x2 x3 : Int) : Option Bool :=
 
  (lift_DoS N x0 (LiftEvent.mk x1 x2 (0 : Int) (0 : Int))).bind fun (r4 : LiftState × Int) => some (r4.snd == x3)
theorem refusesS_eq (N : Nat) (s : LiftState) (a b c : Int) : l20_refuses N s a b c = refusesS N s a b c := by
  unfold l20_refuses refusesS
  rw [doS_eq]
def fineS (N : Nat) (x0 : LiftState) (x1 x2 x3 x4 : Int) : Option (LiftState × Bool) :=
  (lift_DoS N x0 (LiftEvent.mk x1 x2 x3 x4)).bind fun (r5 : LiftState × Int) => fLiftState r5.fst fun s => fB (r5.snd == (0 : Int)) fun b => some (s, b)
theorem fineS_eq (N : Nat) (s : LiftState) (a b c d : Int) : l20_fine N s a b c d = fineS N s a b c d := by
  unfold l20_fine fineS
  rw [doS_eq]
  congr 1
  funext r
  rw [fLiftState_eq, fB_eq]
def openedS (N : Nat) : Option (LiftState × Bool) :=
 
  (l20_example N).bind fun (r0 : Make) =>
    (l20_made N r0).bind fun (r1 : LiftState × Int) =>
      (bif r1.snd != (0 : Int) then some true
          else
            (lift_Load N r1.fst).bind fun (r2 : Int) =>
              bif r2 != (5000 : Int) then some true
              else (refusesS N r1.fst (2 : Int) (0 : Int) (14 : Int)).bind fun (r3 : Bool) => some !r3).bind
        fun (r4 : Bool) =>
        bif r4 then some (r1.fst, false)
        else
          (fineS N r1.fst (13 : Int) (1 : Int) (20000 : Int) (0 : Int)).bind fun (r5 : LiftState × Bool) =>
            (fineS N r5.fst (13 : Int) (2 : Int) (20000 : Int) (0 : Int)).bind fun (r6 : LiftState × Bool) =>
              (bif !r5.snd then some true
                  else
                    bif !r6.snd then some true
                    else (refusesS N r6.fst (2 : Int) (0 : Int) (11 : Int)).bind fun (r7 : Bool) => some !r7).bind
                fun (r8 : Bool) =>
                bif r8 then some (r6.fst, false)
                else
                  (fineS N r6.fst (15 : Int) (1 : Int) (0 : Int) (7 : Int)).bind fun (r9 : LiftState × Bool) =>
                    (fineS N r9.fst (2 : Int) (0 : Int) (0 : Int) (0 : Int)).bind fun (r10 : LiftState × Bool) =>
                      (bif r9.snd then some (r10.snd, r10.fst) else some (false, r10.fst)).bind
                        fun (r11 : Bool × LiftState) => some (r11.snd, r11.fst)
theorem openedS_eq (N : Nat) : l20_opened N = openedS N := by
  unfold l20_opened openedS
  simp only [fineS_eq, refusesS_eq]
def aliveS (N : Nat) : Option Bool :=
 
  (openedS N).bind fun (r0 : LiftState × Bool) =>
    bif !r0.snd then some false
    else
      (fineS N r0.fst (16 : Int) (3 : Int) (0 : Int) (0 : Int)).bind fun (r1 : LiftState × Bool) =>
        (fineS N r1.fst (4 : Int) (5000 : Int) (0 : Int) (0 : Int)).bind fun (r2 : LiftState × Bool) =>
          (fineS N r2.fst (1 : Int) (10 : Int) (0 : Int) (0 : Int)).bind fun (r3 : LiftState × Bool) =>
            (bif !r1.snd then some true
                else
                  bif !r2.snd then some true
                  else
                    bif !r3.snd then some true
                    else
                      bif r3.fst.Drive.Speed != (5000 : Int) then some true
                      else some (r3.fst.Drive.Moved != (27500 : Int))).bind
              fun (r4 : Bool) =>
              bif r4 then some false
              else
                (fineS N r3.fst (1 : Int) (5 : Int) (0 : Int) (0 : Int)).bind fun (r5 : LiftState × Bool) =>
                  (bif !r5.snd then some true
                      else
                        bif r5.fst.Drive.Moved != (52500 : Int) then some true
                        else
                          bif r5.fst.Up != (3 : Int) then some true
                          else
                            bif (↑r5.fst.Queue.Groups.length : Int) != (0 : Int) then some true
                            else (lift_Safe N r5.fst).bind fun (r6 : Bool) => some !r6).bind
                    fun (r7 : Bool) =>
                    bif r7 then some false
                    else
                      (fineS N r5.fst (8 : Int) (2 : Int) (0 : Int) (0 : Int)).bind fun (r8 : LiftState × Bool) =>
                        (bif !r8.snd then some true else some (r8.fst.Drive.State != (3 : Int))).bind fun (r9 : Bool) =>
                          bif r9 then some false
                          else
                            (fineS N r8.fst (1 : Int) (5 : Int) (0 : Int) (0 : Int)).bind
                              fun (r10 : LiftState × Bool) =>
                              (bif !r10.snd then some true
                                  else
                                    bif r10.fst.Drive.Speed != (0 : Int) then some true
                                    else
                                      bif r10.fst.Drive.Moved != (62500 : Int) then some true
                                      else
                                        (refusesS N r10.fst (4 : Int) (5000 : Int) (13 : Int)).bind
                                          fun (r11 : Bool) => some !r11).bind
                                fun (r12 : Bool) =>
                                bif r12 then some false
                                else
                                  (fineS N r10.fst (9 : Int) (2 : Int) (0 : Int) (0 : Int)).bind
                                    fun (r13 : LiftState × Bool) =>
                                    (fineS N r13.fst (10 : Int) (2 : Int) (0 : Int) (7 : Int)).bind
                                      fun (r14 : LiftState × Bool) =>
                                      (fineS N r14.fst (7 : Int) (0 : Int) (0 : Int) (0 : Int)).bind
                                        fun (r15 : LiftState × Bool) =>
                                        (fineS N r15.fst (4 : Int) (1000 : Int) (0 : Int) (0 : Int)).bind
                                          fun (r16 : LiftState × Bool) =>
                                          (bif !r13.snd then some true
                                              else
                                                bif !r14.snd then some true
                                                else bif !r15.snd then some true else some !r16.snd).bind
                                            fun (r17 : Bool) =>
                                            bif r17 then some false
                                            else
                                              (fineS N r16.fst (3 : Int) (0 : Int) (0 : Int) (0 : Int)).bind
                                                fun (r18 : LiftState × Bool) =>
                                                (fineS N r18.fst (1 : Int) (600 : Int) (0 : Int) (0 : Int)).bind
                                                  fun (r19 : LiftState × Bool) =>
                                                  (bif r18.snd then
                                                        bif r19.snd then
                                                          bif r19.fst.Off == (3 : Int) then
                                                            some (r19.fst.Mode == (0 : Int))
                                                          else some false
                                                        else some false
                                                      else some false).bind
                                                    fun (r20 : Bool) => some r20
theorem aliveS_eq (N : Nat) : l20_alive N = aliveS N := by
  unfold l20_alive aliveS
  simp only [fineS_eq, refusesS_eq, openedS_eq]
theorem aliveS_ok : aliveS 2000 = some true := by kernel_rfl
theorem alive_ok : l20_alive 2000 = some true := (aliveS_eq 2000).trans aliveS_ok
end Go.Proofs.YthjmbcnohgaihaaGreat

