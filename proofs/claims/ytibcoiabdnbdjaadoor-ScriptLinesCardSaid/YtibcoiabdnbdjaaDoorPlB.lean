/- Own texts in one module: Scrc Scrd Scre Scrf Scrg. No condition. -/
import Derived.Test.YtibcoiabdnbdjaaDoorPlA
/- Script, plain: Print, and the reference's. No condition. -/
namespace Go.Proofs.YtibcoiabdnbdjaaDoor
open Go.Cm Go.Proofs
set_option linter.unusedVariables false
set_option maxRecDepth 100000
/-- the line of an event, with its line feed -/
def lineW (e : Event) : L8 := wordOf e.Kind.toNat ++ argsW e.Args ++ [10]
/-- the error of an event; 0 if it has none -/
def errE (e : Event) : Int :=
  if 1 ≤ e.Kind ∧ e.Kind < 45 then
    (if fitsS e.Kind.toNat e.Args.length then (if e.Args.all inR then 0 else 2) else 3)
  else 18
def printS : List Event → L8 → L8 × Int
  | [], acc => (acc, 0)
  | e :: es, acc => if errE e = 0 then printS es (acc ++ lineW e) else ([], errE e)
theorem inR_isI {z : Int} (h : inR z = true) : isI z := by
  unfold inR at h
  simp only [Bool.and_eq_true, decide_eq_true_eq] at h
  unfold isI; omega
/-- the first arguments in range, as the code's loop finds them -/
theorem all_take {l : List Int} {i : Nat} (h : ∀ j, j < i → (!(inR (l.getD j 0))) = false) : ∀ z, z ∈ l.take i → isI z := by
  intro z hz
  obtain ⟨j, hj, rfl⟩ := List.mem_iff_getElem.1 hz
  simp only [List.length_take] at hj
  have h1 := h j (by omega)
  rw [show l.getD j 0 = l[j] by simp [List.getD, List.getElem?_eq_getElem (show j < l.length by omega)]] at h1
  rw [List.getElem_take]
  exact inR_isI (by simpa using h1)
theorem word_len : ∀ k, k < 45 → (wordOf k).length ≤ 10 := by decide
theorem print_loop (N : Nat) (hN : 1000 < N) : ∀ (M : Nat) (l : List Event) (i : Nat) (acc : L8), i ≤ l.length → l.length - i < M → l.length < 500 → (∀ e, e ∈ l → e.Args.length < 100000 ∧ e.Args.length < N) → acc.length ≤ 3000000 * i →
    ∃ r, whileF M
        (fun (p1 : Int × Builder) =>
          bif decide (p1.fst < (l.length : Int)) then
            bif decide ((0 : Int) ≤ p1.fst) && decide (p1.fst < (l.length : Int)) then
              (bif decide ((l.getD (Int.toNat p1.fst) z_Event).Kind < (1 : Int)) then some true
                  else some (decide ((l.getD (Int.toNat p1.fst) z_Event).Kind ≥ (45 : Int)))).bind
                fun (r2 : Bool) =>
                bif r2 then some (Sum.inr (Sum.inr (bL [], (18 : Int), Builder.mk false p1.snd.buf)))
                else
                  (script_fits N (l.getD (Int.toNat p1.fst) z_Event).Kind
                        ((l.getD (Int.toNat p1.fst) z_Event).Args.length : Int)).bind
                    fun (r3 : Bool) =>
                    bif !r3 then some (Sum.inr (Sum.inr (bL [], (3 : Int), Builder.mk false p1.snd.buf)))
                    else
                      bif
                          decide ((0 : Int) ≤ (l.getD (Int.toNat p1.fst) z_Event).Kind) &&
                            decide
                              ((l.getD (Int.toNat p1.fst) z_Event).Kind < (45 : Int) ∧
                                (l.getD (Int.toNat p1.fst) z_Event).Kind < (tab_0.length : Int)) then
                        bif
                            decide
                              ((p1.snd.buf.length +
                                    (strU
                                        (tab_0.getD (l.getD (Int.toNat p1.fst) z_Event).Kind.toNat
                                            z_form).word).length) *
                                  (1 : Nat) ≤
                                (140737488355328 : Nat)) then
                          (some
                                (p1.snd.buf ++
                                  strU
                                    (tab_0.getD (l.getD (Int.toNat p1.fst) z_Event).Kind.toNat z_form).word)).bind
                            fun (r4 : List Int) =>
                            (whileF N
                                  (fun (p5 : Int × Builder) =>
                                    bif decide (p5.fst < ((l.getD (Int.toNat p1.fst) z_Event).Args.length : Int)) then
                                      bif
                                          decide ((0 : Int) ≤ p5.fst) &&
                                            decide
                                              (p5.fst < ((l.getD (Int.toNat p1.fst) z_Event).Args.length : Int)) then
                                        (script_inRange N
                                              ((l.getD (Int.toNat p1.fst) z_Event).Args.getD (Int.toNat p5.fst)
                                                (0 : Int))).bind
                                          fun (r6 : Bool) =>
                                          bif !r6 then
                                            some (Sum.inr (Sum.inr (bL [], (2 : Int), Builder.mk false p5.snd.buf)))
                                          else
                                            (strconv_Itoa N
                                                  ((l.getD (Int.toNat p1.fst) z_Event).Args.getD (Int.toNat p5.fst)
                                                    (0 : Int))).bind
                                              fun (r7 : ByteArray) =>
                                              bif decide ((1 : Nat) + r7.size ≤ (9223372036854775807 : Nat)) then
                                                bif
                                                    decide
                                                      ((p5.snd.buf.length +
                                                            (strU (bL [(32 : Nat)] ++ r7)).length) *
                                                          (1 : Nat) ≤
                                                        (140737488355328 : Nat)) then
                                                  (some (p5.snd.buf ++ strU (bL [(32 : Nat)] ++ r7))).bind
                                                    fun (r8 : List Int) =>
                                                    some
                                                      (Sum.inl
                                                        (IntKind.i64.wrap (p5.fst + (1 : Int)), Builder.mk false r8))
                                                else none
                                              else none
                                      else none
                                    else some (Sum.inr (Sum.inl (Builder.mk false p5.snd.buf))))
                                  ((0 : Int), Builder.mk false r4)).bind
                              fun (r9 : Builder ⊕ ByteArray × Int × Builder) =>
                              Sum.elim
                                (fun (p10 : Builder) =>
                                  bif decide ((p10.buf.length + (1 : Nat)) * (1 : Nat) ≤ (140737488355328 : Nat)) then
                                    (some (p10.buf ++ [(10 : Int)])).bind fun (r11 : List Int) =>
                                      some (Sum.inl (IntKind.i64.wrap (p1.fst + (1 : Int)), Builder.mk false r11))
                                  else none)
                                (fun (p12 : ByteArray × Int × Builder) =>
                                  some (Sum.inr (Sum.inr (p12.fst, p12.snd.fst, Builder.mk false p12.snd.snd.buf))))
                                r9
                        else none
                      else none
            else none
          else some (Sum.inr (Sum.inl (Builder.mk false p1.snd.buf)))) ((i : Int), Builder.mk false (toI acc)) = some r ∧
      Sum.elim
      (fun (p14 : Builder) =>
        bif decide ((p14.buf.length : Int) = (p14.buf.length : Int)) then some (byU p14.buf, (0 : Int))
        else none)
      (fun (p15 : ByteArray × Int × Builder) => some (p15.fst, p15.snd.fst)) r = some (ba (printS (l.drop i) acc).1, (printS (l.drop i) acc).2)
  | 0, l, i, acc, _, h, _, _, _ => by omega
  | M + 1, l, i, acc, hi0, hM, hl, hargs, hacc => by
    rw [whileF_succ]
    dsimp only
    by_cases hi : i < l.length
    · have e1 : decide ((i : Int) < (l.length : Int)) = true := decide_eq_true (by omega)
      have e2 : decide ((0 : Int) ≤ (i : Int)) = true := decide_eq_true (by omega)
      have hdrop : l.drop i = l.getD i z_Event :: l.drop (i + 1) := by
        rw [List.drop_eq_getElem_cons hi]; simp [List.getD, List.getElem?_eq_getElem hi]
      have hmem : l.getD i z_Event ∈ l := by
        rw [show l.getD i z_Event = l[i] by simp [List.getD, List.getElem?_eq_getElem hi]]
        exact List.getElem_mem hi
      obtain ⟨ha1, ha2⟩ := hargs _ hmem
      rw [hdrop]
      obtain ⟨e, hE⟩ : ∃ e, l.getD i z_Event = e := ⟨_, rfl⟩
      rw [hE] at ha1 ha2
      rw [hE]
      simp only [e1, e2, Bool.and_self, cond_true, Int.toNat_natCast, hE]
      rw [printS]
      unfold errE
      by_cases hk : 1 ≤ e.Kind ∧ e.Kind < 45
      · obtain ⟨k, hk0⟩ : ∃ k : Nat, e.Kind = (k : Int) := ⟨e.Kind.toNat, by omega⟩
        have g1 : decide (e.Kind < 1) = false := decide_eq_false (by omega)
        have g2 : decide (e.Kind ≥ 45) = false := decide_eq_false (by omega)
        have g3 : decide ((0 : Int) ≤ e.Kind) = true := decide_eq_true (by omega)
        have g4 : decide (e.Kind < 45 ∧ e.Kind < (tab_0.length : Int)) = true := decide_eq_true (by rw [tab_len]; omega)
        have hf := script_fits_eq N k e.Args.length (by omega) (by omega)
        have hkn : e.Kind.toNat = k := by omega
        have hwl := word_len k (by omega)
        simp only [g1, g2, g3, g4, cond_false, Option.bind_some, if_pos hk, hkn]
        rw [← hk0] at hf
        rw [hf]
        simp only [Option.bind_some]
        cases hfit : fitsS k e.Args.length with
        | false =>
          exact ⟨_, rfl, by simp [bL_ba]⟩
        | true =>
          have hw : strU (tab_0.getD k z_form).word = toI (wordOf k) := rfl
          have t1 : ((toI acc).length + (toI (wordOf k)).length) * 1 ≤ 140737488355328 := by rw [toI_len, toI_len]; omega
          simp only [Bool.not_true, cond_false, Bool.and_self, cond_true, hw, decide_eq_true t1, Option.bind_some, toI_append]
          have hall := fst_all inR (0 : Int) e.Args
          have loop := bindS (s0 := ((0 : Int), Builder.mk false (toI (acc ++ wordOf k)))) (γ := (Int × Builder) ⊕ (Builder ⊕ ByteArray × Int × Builder)) (fun j => ((j : Int), Builder.mk false (toI (acc ++ wordOf k ++ argsW (e.Args.take j))))) (by simp [argsW]) (fun j => !(inR (e.Args.getD j 0)))
            (fun j => (bL [], (2 : Int), Builder.mk false (toI (acc ++ wordOf k ++ argsW (e.Args.take j))))) (Builder.mk false (toI (acc ++ wordOf k ++ argsW e.Args))) e.Args.length ha2
            (body := fun (p5 : Int × Builder) =>
                                    bif decide (p5.fst < (e.Args.length : Int)) then
                                      bif
                                          decide ((0 : Int) ≤ p5.fst) &&
                                            decide
                                              (p5.fst < (e.Args.length : Int)) then
                                        (script_inRange N
                                              (e.Args.getD (Int.toNat p5.fst)
                                                (0 : Int))).bind
                                          fun (r6 : Bool) =>
                                          bif !r6 then
                                            some (Sum.inr (Sum.inr (bL [], (2 : Int), Builder.mk false p5.snd.buf)))
                                          else
                                            (strconv_Itoa N
                                                  (e.Args.getD (Int.toNat p5.fst)
                                                    (0 : Int))).bind
                                              fun (r7 : ByteArray) =>
                                              bif decide ((1 : Nat) + r7.size ≤ (9223372036854775807 : Nat)) then
                                                bif
                                                    decide
                                                      ((p5.snd.buf.length +
                                                            (strU (bL [(32 : Nat)] ++ r7)).length) *
                                                          (1 : Nat) ≤
                                                        (140737488355328 : Nat)) then
                                                  (some (p5.snd.buf ++ strU (bL [(32 : Nat)] ++ r7))).bind
                                                    fun (r8 : List Int) =>
                                                    some
                                                      (Sum.inl
                                                        (IntKind.i64.wrap (p5.fst + (1 : Int)), Builder.mk false r8))
                                                else none
                                              else none
                                      else none
                                    else some (Sum.inr (Sum.inl (Builder.mk false p5.snd.buf))))
            (g := fun (r9 : Builder ⊕ ByteArray × Int × Builder) =>
                              Sum.elim
                                (fun (p10 : Builder) =>
                                  bif decide ((p10.buf.length + (1 : Nat)) * (1 : Nat) ≤ (140737488355328 : Nat)) then
                                    (some (p10.buf ++ [(10 : Int)])).bind fun (r11 : List Int) =>
                                      some (Sum.inl (IntKind.i64.wrap ((i : Int) + (1 : Int)), Builder.mk false r11))
                                  else none)
                                (fun (p12 : ByteArray × Int × Builder) =>
                                  some (Sum.inr (Sum.inr (p12.fst, p12.snd.fst, Builder.mk false p12.snd.snd.buf))))
                                r9)
            (fun j hj hjp => by
              have e3 : decide ((j : Int) < (e.Args.length : Int)) = true := decide_eq_true (by omega)
              have e4 : decide ((0 : Int) ≤ (j : Int)) = true := decide_eq_true (by omega)
              have hat := argsW_take e.Args j hj
              have hti := all_take (l := e.Args) hjp
              have hal := argsW_len _ hti
              have htl : (e.Args.take j).length ≤ j := by simp; omega
              simp only [e3, e4, Bool.and_self, cond_true, Int.toNat_natCast]
              generalize e.Args.getD j 0 = z at *
              rw [inRange_eq]
              simp only [Option.bind_some]
              cases hz : inR z with
              | false => rfl
              | true =>
                have hzi := inR_isI hz
                have hzl := itoa_len z hzi.1 hzi.2
                have hb2 : bL [32] ++ ba (Lib.itoa z) = ba (32 :: Lib.itoa z) := by rw [bL_ba, ba_append]; rfl
                have t3 : 1 + (ba (Lib.itoa z)).size ≤ 9223372036854775807 := by rw [size_ba]; omega
                have t4 : ((toI (acc ++ wordOf k ++ argsW (e.Args.take j))).length + (toI (32 :: Lib.itoa z)).length) * 1 ≤ 140737488355328 := by
                  rw [toI_len, toI_len]
                  simp only [List.length_append, List.length_cons]
                  omega
                simp only [Bool.not_true, cond_false]
                rw [Itoa_eq N z hzi.1 hzi.2]
                simp only [Option.bind_some]
                rw [decide_eq_true t3, hb2, strU_ba, decide_eq_true t4, wrapC (by omega), toI_append, hat, List.append_assoc]
                rfl)
            (fun _ => by
              have e3 : decide ((e.Args.length : Int) < (e.Args.length : Int)) = false := decide_eq_false (by omega)
              simp only [e3, cond_false, List.take_length])
          simp only [Option.bind_some] at loop
          rw [loop]
          cases hf2 : fst (fun j => !(inR (e.Args.getD j 0))) e.Args.length with
          | some j =>
            rw [hf2] at hall
            have hall : e.Args.all inR = false := hall.symm
            rw [hall]
            exact ⟨_, rfl, by simp [bL_ba]⟩
          | none =>
            rw [hf2] at hall
            have hall : e.Args.all inR = true := hall.symm
            rw [hall]
            have hti : ∀ z, z ∈ e.Args → isI z := fun z hz => inR_isI (List.all_eq_true.1 hall z hz)
            have hal := argsW_len _ hti
            have t5 : ((toI (acc ++ wordOf k ++ argsW e.Args)).length + 1) * 1 ≤ 140737488355328 := by
              rw [toI_len]; simp only [List.length_append]; omega
            simp only [sres, Sum.elim_inl, decide_eq_true t5, cond_true, Option.bind_some, if_true]
            rw [wrapC (by omega)]
            have ih := print_loop N hN M l (i + 1) (acc ++ lineW e) (by omega) (by omega) hl hargs (by
              unfold lineW
              rw [hkn]
              simp only [List.length_append, List.length_singleton]; omega)
            have hline : toI (acc ++ wordOf k ++ argsW e.Args) ++ [10] = toI (acc ++ lineW e) := by
              unfold lineW
              rw [hkn, show ([10] : List Int) = toI [10] from rfl, toI_append]
              simp
            rw [hline]
            simp only [Option.bind_some] at ih
            exact ih
      · rw [if_neg hk]
        have g : (bif decide (e.Kind < 1) then some true else some (decide (e.Kind ≥ 45))) = some true := by
          by_cases h1 : e.Kind < 1
          · rw [decide_eq_true h1]; rfl
          · rw [decide_eq_false h1, decide_eq_true (show e.Kind ≥ 45 by omega)]; rfl
        rw [g]
        exact ⟨_, rfl, by simp [bL_ba]⟩
    · have hil : i = l.length := by omega
      subst hil
      have e1 : decide ((l.length : Int) < (l.length : Int)) = false := decide_eq_false (by omega)
      rw [e1, List.drop_length]
      refine ⟨_, rfl, ?_⟩
      simp only [Sum.elim_inl, decide_true, cond_true, printS]
      rw [byU_toI]
theorem script_Print_eq (N : Nat) (hN : 1000 < N) (l : List Event) (hl : l.length < 500) (hargs : ∀ e, e ∈ l → e.Args.length < 100000 ∧ e.Args.length < N) : script_Print N l = some (ba (printS l []).1, (printS l []).2) := by
  unfold script_Print
  obtain ⟨r, h1, h2⟩ := print_loop N hN N l 0 [] (by omega) (by omega) hl hargs (by simp)
  have h1' : whileF N _ ((0 : Int), z_Builder) = some r := h1
  rw [h1']
  exact h2
end Go.Proofs.YtibcoiabdnbdjaaDoor

/- Script, plain: the reference's Print; ScriptPrints. No condition. -/
namespace Go.Proofs.YtibcoiabdnbdjaaDoor
open Go.Cm Go.Proofs
set_option linter.unusedVariables false
set_option maxRecDepth 100000
theorem r60_Word_eq (N : Nat) (k : Int) : r60_Word N k = some (if 1 ≤ k ∧ k < 45 then ba (wordOf k.toNat) else ba []) := by
  unfold r60_Word
  rw [words_eq]
  simp only [Option.bind_some]
  have hlen : (tab_0.map (·.word)).length = 45 := rfl
  by_cases hk : 1 ≤ k ∧ k < 45
  · rw [if_pos hk]
    obtain ⟨n, rfl⟩ : ∃ n : Nat, k = (n : Int) := ⟨k.toNat, by omega⟩
    have g1 : decide ((n : Int) < 1) = false := decide_eq_false (by omega)
    have g2 : decide ((n : Int) ≥ ((tab_0.map (·.word)).length : Int)) = false := decide_eq_false (by rw [hlen]; omega)
    have g3 : decide ((0 : Int) ≤ (n : Int)) = true := decide_eq_true (by omega)
    have g4 : decide ((n : Int) < ((tab_0.map (·.word)).length : Int)) = true := decide_eq_true (by rw [hlen]; omega)
    simp only [g1, g2, g3, g4, cond_false, Option.bind_some, Bool.and_self, cond_true, Int.toNat_natCast]
    congr 1
    have h : n < tab_0.length := by rw [tab_len]; omega
    unfold wordOf
    rw [ba_tl]
    simp [List.getD, List.getElem?_eq_getElem h]
  · rw [if_neg hk]
    have g : (bif decide (k < 1) then some true else some (decide (k ≥ ((tab_0.map (·.word)).length : Int)))) = some true := by
      by_cases h1 : k < 1
      · rw [decide_eq_true h1]; rfl
      · rw [decide_eq_false h1, decide_eq_true (show k ≥ ((tab_0.map (·.word)).length : Int) by rw [hlen]; omega)]; rfl
    rw [g]
    rfl
theorem rprint_loop (N : Nat) (hN : 1000 < N) : ∀ (M : Nat) (l : List Event) (i : Nat) (acc : L8), i ≤ l.length → l.length - i < M → l.length < 500 → (∀ e, e ∈ l → e.Args.length < 100000 ∧ e.Args.length < N) → acc.length ≤ 3000000 * i →
    ∃ r, whileF M
        (fun (p1 : ByteArray × Int) =>
          bif decide (p1.snd < (l.length : Int)) then
            bif decide ((0 : Int) ≤ p1.snd) && decide (p1.snd < (l.length : Int)) then
              (r60_Word N (l.getD (Int.toNat p1.snd) z_Event).Kind).bind fun (r2 : ByteArray) =>
                bif r2.toList == [] then some (Sum.inr (Sum.inr (bL [], (18 : Int))))
                else
                  bif decide ((0 : Int) ≤ p1.snd) && decide (p1.snd < (l.length : Int)) then
                    bif decide ((0 : Int) ≤ p1.snd) && decide (p1.snd < (l.length : Int)) then
                      (r60_fits N (l.getD (Int.toNat p1.snd) z_Event).Kind
                            ((l.getD (Int.toNat p1.snd) z_Event).Args.length : Int)).bind
                        fun (r3 : Bool) =>
                        bif !r3 then some (Sum.inr (Sum.inr (bL [], (3 : Int))))
                        else
                          bif decide ((0 : Int) ≤ p1.snd) && decide (p1.snd < (l.length : Int)) then
                            (r60_Word N (l.getD (Int.toNat p1.snd) z_Event).Kind).bind fun (r4 : ByteArray) =>
                              bif decide (ByteArray.size p1.fst + r4.size ≤ (9223372036854775807 : Nat)) then
                                (whileF N
                                      (fun (p5 : ByteArray × Int) =>
                                        bif decide ((0 : Int) ≤ p1.snd) && decide (p1.snd < (l.length : Int)) then
                                          bif
                                              decide
                                                (p5.snd <
                                                  ((l.getD (Int.toNat p1.snd) z_Event).Args.length : Int)) then
                                            bif decide ((0 : Int) ≤ p1.snd) && decide (p1.snd < (l.length : Int)) then
                                              bif
                                                  decide ((0 : Int) ≤ p5.snd) &&
                                                    decide
                                                      (p5.snd <
                                                        ((l.getD (Int.toNat p1.snd) z_Event).Args.length : Int)) then
                                                (bif
                                                        decide
                                                          ((l.getD (Int.toNat p1.snd) z_Event).Args.getD
                                                              (Int.toNat p5.snd) (0 : Int) <
                                                            (-1125899906842624 : Int)) then
                                                      some true
                                                    else
                                                      some
                                                        (decide
                                                          ((l.getD (Int.toNat p1.snd) z_Event).Args.getD
                                                              (Int.toNat p5.snd) (0 : Int) >
                                                            (1125899906842624 : Int)))).bind
                                                  fun (r6 : Bool) =>
                                                  bif r6 then some (Sum.inr (Sum.inr (bL [], (2 : Int))))
                                                  else
                                                    bif
                                                        decide
                                                          (ByteArray.size p5.fst + (1 : Nat) ≤
                                                            (9223372036854775807 : Nat)) then
                                                      (r60_Number N
                                                            ((l.getD (Int.toNat p1.snd) z_Event).Args.getD
                                                              (Int.toNat p5.snd) (0 : Int))).bind
                                                        fun (r7 : ByteArray) =>
                                                        bif
                                                            decide
                                                              ((p5.fst ++ bL [(32 : Nat)]).size + r7.size ≤
                                                                (9223372036854775807 : Nat)) then
                                                          some
                                                            (Sum.inl
                                                              (p5.fst ++ bL [(32 : Nat)] ++ r7,
                                                                IntKind.i64.wrap (p5.snd + (1 : Int))))
                                                        else none
                                                    else none
                                              else none
                                            else none
                                          else some (Sum.inr (Sum.inl p5.fst))
                                        else none)
                                      (p1.fst ++ r4, (0 : Int))).bind
                                  fun (r8 : ByteArray ⊕ ByteArray × Int) =>
                                  Sum.elim
                                    (fun (p9 : ByteArray) =>
                                      bif decide (p9.size + (1 : Nat) ≤ (9223372036854775807 : Nat)) then
                                        some (Sum.inl (p9 ++ bL [(10 : Nat)], IntKind.i64.wrap (p1.snd + (1 : Int))))
                                      else none)
                                    (fun (p10 : ByteArray × Int) => some (Sum.inr (Sum.inr p10))) r8
                              else none
                          else none
                    else none
                  else none
            else none
          else some (Sum.inr (Sum.inl p1.fst))) (ba acc, (i : Int)) = some r ∧
      Sum.elim (fun (p12 : ByteArray) => some (p12, (0 : Int))) (fun (p13 : ByteArray × Int) => some p13) r = some (ba (printS (l.drop i) acc).1, (printS (l.drop i) acc).2)
  | 0, l, i, acc, _, h, _, _, _ => by omega
  | M + 1, l, i, acc, hi0, hM, hl, hargs, hacc => by
    rw [whileF_succ]
    dsimp only
    by_cases hi : i < l.length
    · have e1 : decide ((i : Int) < (l.length : Int)) = true := decide_eq_true (by omega)
      have e2 : decide ((0 : Int) ≤ (i : Int)) = true := decide_eq_true (by omega)
      have hdrop : l.drop i = l.getD i z_Event :: l.drop (i + 1) := by
        rw [List.drop_eq_getElem_cons hi]; simp [List.getD, List.getElem?_eq_getElem hi]
      have hmem : l.getD i z_Event ∈ l := by
        rw [show l.getD i z_Event = l[i] by simp [List.getD, List.getElem?_eq_getElem hi]]
        exact List.getElem_mem hi
      obtain ⟨ha1, ha2⟩ := hargs _ hmem
      rw [hdrop]
      obtain ⟨e, hE⟩ : ∃ e, l.getD i z_Event = e := ⟨_, rfl⟩
      rw [hE] at ha1 ha2
      rw [hE]
      simp only [e1, e2, Bool.and_self, cond_true, Int.toNat_natCast, hE]
      rw [printS]
      unfold errE
      rw [r60_Word_eq]
      by_cases hk : 1 ≤ e.Kind ∧ e.Kind < 45
      · obtain ⟨k, hk0⟩ : ∃ k : Nat, e.Kind = (k : Int) := ⟨e.Kind.toNat, by omega⟩
        have hf := r60_fits_eq N k e.Args.length (by omega) (by omega) (by omega)
        have hkn : e.Kind.toNat = k := by omega
        have hwl := word_len k (by omega)
        have hwne := (word_facts k (by omega) (by omega)).1
        rw [if_pos hk, if_pos hk, hkn]
        simp only [Option.bind_some]
        rw [toList_ba, show (wordOf k == []) = false by simpa using hwne]
        rw [← hk0] at hf
        rw [hf]
        simp only [Option.bind_some, cond_false]
        cases hfit : fitsS k e.Args.length with
        | false =>
          exact ⟨_, rfl, by simp [bL_ba]⟩
        | true =>
          have t1 : (ba acc).size + (ba (wordOf k)).size ≤ 9223372036854775807 := by rw [size_ba, size_ba]; omega
          simp only [Bool.not_true, cond_false, cond_true, decide_eq_true t1, Option.bind_some, ba_append]
          have hall := fst_all inR (0 : Int) e.Args
          have loop := bindS (s0 := (ba (acc ++ wordOf k), (0 : Int))) (γ := (ByteArray × Int) ⊕ (ByteArray ⊕ ByteArray × Int)) (fun j => (ba (acc ++ wordOf k ++ argsW (e.Args.take j)), (j : Int))) (by simp [argsW]) (fun j => !(inR (e.Args.getD j 0)))
            (fun j => (bL [], (2 : Int))) (ba (acc ++ wordOf k ++ argsW e.Args)) e.Args.length ha2
            (body := fun (p5 : ByteArray × Int) =>
                                          bif
                                              decide
                                                (p5.snd <
                                                  (e.Args.length : Int)) then
                                              bif
                                                  decide ((0 : Int) ≤ p5.snd) &&
                                                    decide
                                                      (p5.snd <
                                                        (e.Args.length : Int)) then
                                                (bif
                                                        decide
                                                          (e.Args.getD
                                                              (Int.toNat p5.snd) (0 : Int) <
                                                            (-1125899906842624 : Int)) then
                                                      some true
                                                    else
                                                      some
                                                        (decide
                                                          (e.Args.getD
                                                              (Int.toNat p5.snd) (0 : Int) >
                                                            (1125899906842624 : Int)))).bind
                                                  fun (r6 : Bool) =>
                                                  bif r6 then some (Sum.inr (Sum.inr (bL [], (2 : Int))))
                                                  else
                                                    bif
                                                        decide
                                                          (ByteArray.size p5.fst + (1 : Nat) ≤
                                                            (9223372036854775807 : Nat)) then
                                                      (r60_Number N
                                                            (e.Args.getD
                                                              (Int.toNat p5.snd) (0 : Int))).bind
                                                        fun (r7 : ByteArray) =>
                                                        bif
                                                            decide
                                                              ((p5.fst ++ bL [(32 : Nat)]).size + r7.size ≤
                                                                (9223372036854775807 : Nat)) then
                                                          some
                                                            (Sum.inl
                                                              (p5.fst ++ bL [(32 : Nat)] ++ r7,
                                                                IntKind.i64.wrap (p5.snd + (1 : Int))))
                                                        else none
                                                    else none
                                              else none
                                          else some (Sum.inr (Sum.inl p5.fst)))
            (g := fun (r8 : ByteArray ⊕ ByteArray × Int) =>
                                  Sum.elim
                                    (fun (p9 : ByteArray) =>
                                      bif decide (p9.size + (1 : Nat) ≤ (9223372036854775807 : Nat)) then
                                        some (Sum.inl (p9 ++ bL [(10 : Nat)], IntKind.i64.wrap ((i : Int) + (1 : Int))))
                                      else none)
                                    (fun (p10 : ByteArray × Int) => some (Sum.inr (Sum.inr p10))) r8)
            (fun j hj hjp => by
              have e3 : decide ((j : Int) < (e.Args.length : Int)) = true := decide_eq_true (by omega)
              have e4 : decide ((0 : Int) ≤ (j : Int)) = true := decide_eq_true (by omega)
              have hat := argsW_take e.Args j hj
              have hti := all_take (l := e.Args) hjp
              have hal := argsW_len _ hti
              have htl : (e.Args.take j).length ≤ j := by simp; omega
              obtain ⟨z, hz0⟩ : ∃ z, e.Args.getD j 0 = z := ⟨_, rfl⟩
              rw [hz0] at hat
              simp only [e3, e4, Bool.and_self, cond_true, Int.toNat_natCast, hz0]
              have hin : (bif decide (z < (-1125899906842624 : Int)) then some true else some (decide (z > (1125899906842624 : Int)))) = some (!(inR z)) := by
                unfold inR
                by_cases h1 : z < -1125899906842624
                · rw [decide_eq_true h1, decide_eq_false (show ¬ -1125899906842624 ≤ z by omega)]; rfl
                · rw [decide_eq_false h1, decide_eq_true (show -1125899906842624 ≤ z by omega)]
                  by_cases h2 : z > 1125899906842624
                  · rw [decide_eq_true h2, decide_eq_false (show ¬ z ≤ 1125899906842624 by omega)]; rfl
                  · rw [decide_eq_false h2, decide_eq_true (show z ≤ 1125899906842624 by omega)]; rfl
              rw [hin]
              simp only [Option.bind_some]
              cases hz : inR z with
              | false => rfl
              | true =>
                have hzi := inR_isI hz
                have hzl := itoa_len z hzi.1 hzi.2
                have hb2 : ba (acc ++ wordOf k ++ argsW (e.Args.take j)) ++ bL [32] = ba (acc ++ wordOf k ++ argsW (e.Args.take j) ++ [32]) := by rw [bL_ba, ba_append]; rfl
                have t3 : (ba (acc ++ wordOf k ++ argsW (e.Args.take j))).size + 1 ≤ 9223372036854775807 := by rw [size_ba]; simp only [List.length_append]; omega
                have t4 : (ba (acc ++ wordOf k ++ argsW (e.Args.take j) ++ [32])).size + (ba (Lib.itoa z)).size ≤ 9223372036854775807 := by
                  rw [size_ba, size_ba]
                  simp only [List.length_append, List.length_singleton]
                  omega
                simp only [Bool.not_true, cond_false, decide_eq_true t3, cond_true]
                rw [Number_eq N (by omega) z hzi.1 hzi.2]
                simp only [Option.bind_some]
                rw [hb2, decide_eq_true t4, wrapC (by omega), ba_append, hat]
                simp only [cond_true, List.append_assoc, List.singleton_append])
            (fun _ => by
              have e3 : decide ((e.Args.length : Int) < (e.Args.length : Int)) = false := decide_eq_false (by omega)
              simp only [e3, cond_false, List.take_length])
          rw [loop]
          cases hf2 : fst (fun j => !(inR (e.Args.getD j 0))) e.Args.length with
          | some j =>
            rw [hf2] at hall
            have hall : e.Args.all inR = false := hall.symm
            rw [hall]
            exact ⟨_, rfl, by simp [bL_ba]⟩
          | none =>
            rw [hf2] at hall
            have hall : e.Args.all inR = true := hall.symm
            rw [hall]
            have hti : ∀ z, z ∈ e.Args → isI z := fun z hz => inR_isI (List.all_eq_true.1 hall z hz)
            have hal := argsW_len _ hti
            have t5 : (ba (acc ++ wordOf k ++ argsW e.Args)).size + 1 ≤ 9223372036854775807 := by
              rw [size_ba]; simp only [List.length_append]; omega
            simp only [sres, Sum.elim_inl, decide_eq_true t5, cond_true, Option.bind_some, if_true]
            rw [wrapC (by omega)]
            have ih := rprint_loop N hN M l (i + 1) (acc ++ lineW e) (by omega) (by omega) hl hargs (by
              unfold lineW
              rw [hkn]
              simp only [List.length_append, List.length_singleton]; omega)
            have hline : ba (acc ++ wordOf k ++ argsW e.Args) ++ bL [10] = ba (acc ++ lineW e) := by
              unfold lineW
              rw [hkn, bL_ba, ba_append]
              simp
            rw [hline]
            exact ih
      · rw [if_neg hk, if_neg hk]
        refine ⟨Sum.inr (bL [], 18), ?_, by simp [bL_ba]⟩
        simp only [Option.bind_some]
        rw [toList_ba]
        rfl
    · have hil : i = l.length := by omega
      subst hil
      have e1 : decide ((l.length : Int) < (l.length : Int)) = false := decide_eq_false (by omega)
      rw [e1, List.drop_length]
      exact ⟨_, rfl, rfl⟩
theorem r60_Print_eq (N : Nat) (hN : 1000 < N) (l : List Event) (hl : l.length < 500) (hargs : ∀ e, e ∈ l → e.Args.length < 100000 ∧ e.Args.length < N) : r60_Print N l = some (ba (printS l []).1, (printS l []).2) := by
  unfold r60_Print
  obtain ⟨r, h1, h2⟩ := rprint_loop N hN N l 0 [] (by omega) (by omega) hl hargs (by simp)
  have h1' : whileF N _ (bL [], (0 : Int)) = some r := h1
  rw [h1']
  exact h2
theorem small_eq (N : Nat) (hN : 1000 < N) (l : List Event) : ∃ b, l60_small N l = some b ∧ (b = true → l.length ≤ 420 ∧ ∀ e, e ∈ l → e.Args.length ≤ 60) := by
  unfold l60_small
  by_cases h : 420 < l.length
  · exact ⟨false, by rw [decide_eq_true (show (l.length : Int) > 420 by omega)]; rfl, fun e => by cases e⟩
  · rw [decide_eq_false (show ¬ (l.length : Int) > 420 by omega), cond_false]
    have hall := fst_all (fun e : Event => decide (e.Args.length ≤ 60)) z_Event l
    rw [bindS (s0 := (0 : Int)) (fun j => (j : Int)) rfl (fun j => !((fun e : Event => decide (e.Args.length ≤ 60)) (l.getD j z_Event))) (fun _ => false) () l.length (by omega)]
    · cases hf : fst (fun j => !((fun e : Event => decide (e.Args.length ≤ 60)) (l.getD j z_Event))) l.length with
      | some i => exact ⟨false, rfl, fun e => by cases e⟩
      | none =>
        rw [hf] at hall
        have hall : l.all (fun e : Event => decide (e.Args.length ≤ 60)) = true := hall.symm
        exact ⟨true, rfl, fun _ => ⟨by omega, fun e he => by simpa using List.all_eq_true.1 hall e he⟩⟩
    · intro i hi _
      have e1 : decide ((i : Int) < (l.length : Int)) = true := decide_eq_true (by omega)
      have e2 : decide ((0 : Int) ≤ (i : Int)) = true := decide_eq_true (by omega)
      obtain ⟨e, hE⟩ : ∃ e, l.getD i z_Event = e := ⟨_, rfl⟩
      simp only [e1, e2, Bool.and_self, cond_true, Int.toNat_natCast, hE]
      rw [wrapC (by omega)]
      by_cases h60 : e.Args.length ≤ 60
      · rw [decide_eq_true h60, decide_eq_false (show ¬ (e.Args.length : Int) > 60 by omega)]; rfl
      · rw [decide_eq_false h60, decide_eq_true (show (e.Args.length : Int) > 60 by omega)]; rfl
    · intro _
      have e1 : decide ((l.length : Int) < (l.length : Int)) = false := decide_eq_false (by omega)
      simp only [e1, cond_false]
theorem t_ScriptPrints : AllW (fun y => y = some true) [.l_Event] (l60_ScriptPrints 1000000) := by
  intro (x : List Event) _
  show l60_ScriptPrints 1000000 x = some true
  unfold l60_ScriptPrints
  rw [alive_eq _ (by omega)]
  simp only [Option.bind_some, Bool.not_true, cond_false]
  obtain ⟨b, hb, hs⟩ := small_eq 1000000 (by omega) x
  rw [hb]
  simp only [Option.bind_some]
  cases b with
  | false => rfl
  | true =>
    obtain ⟨h1, h2⟩ := hs rfl
    have hargs : ∀ e, e ∈ x → e.Args.length < 100000 ∧ e.Args.length < 1000000 := fun e he => by have := h2 e he; omega
    rw [script_Print_eq _ (by omega) x (by omega) hargs, r60_Print_eq _ (by omega) x (by omega) hargs]
    simp
end Go.Proofs.YtibcoiabdnbdjaaDoor

/- Script, plain: what is printed is read back. No condition. -/
namespace Go.Proofs.YtibcoiabdnbdjaaDoor
open Go.Cm Go.Proofs
set_option linter.unusedVariables false
set_option maxRecDepth 100000
theorem val_snoc (a : L8) (c : UInt8) : ∀ n : Int, val n (a ++ [c]) = 10 * val n a + ((c.toNat : Int) - 48) := by
  induction a with
  | nil => intro n; rfl
  | cons b a ih => intro n; exact ih _
theorem dig_ofNat {u : Nat} (h : u < 10) : (UInt8.ofNat (48 + u)).toNat = 48 + u := by
  rw [UInt8.toNat_ofNat']; omega
theorem dec_facts (u : Nat) : (Lib.decDigits u).all isDig = true ∧ Lib.decDigits u ≠ [] ∧ val 0 (Lib.decDigits u) = (u : Int) ∧ (u ≠ 0 → (Lib.decDigits u).head? ≠ some 48) := by
  induction u using Nat.strongRecOn with
  | _ u ih =>
    by_cases h : u < 10
    · rw [decDigits_lt h]
      have hd := dig_ofNat h
      refine ⟨?_, by simp, ?_, fun h0 => ?_⟩
      · simp [isDig, hd]; omega
      · show 10 * 0 + (((UInt8.ofNat (48 + u)).toNat : Int) - 48) = u
        rw [hd]; omega
      · intro e
        simp only [List.head?_cons, Option.some.injEq] at e
        rw [e] at hd
        have : (48 : UInt8).toNat = 48 := rfl
        omega
    · rw [decDigits_ge h]
      obtain ⟨h1, h2, h3, h4⟩ := ih (u / 10) (by omega)
      have hd := dig_ofNat (show u % 10 < 10 by omega)
      refine ⟨?_, by simp, ?_, fun _ => ?_⟩
      · rw [List.all_append, h1]
        simp [isDig, hd]; omega
      · rw [val_snoc, h3, hd]; omega
      · rw [List.head?_append]
        cases hh : (Lib.decDigits (u / 10)).head? with
        | none =>
          rw [List.head?_eq_none_iff] at hh
          exact absurd hh h2
        | some c =>
          have := h4 (by omega)
          rw [hh] at this
          exact this
theorem dgOf_dig {l : L8} (h : l.all isDig = true) : dgOf l = (l, false) := by
  unfold dgOf
  split
  · rename_i r
    simp [isDig] at h
  · rfl
theorem dgOf_minus (l : L8) : dgOf (45 :: l) = (l, true) := rfl
theorem numS_itoa {z : Int} (h : inR z = true) : numS (Lib.itoa z) = (z, true) := by
  unfold inR at h
  simp only [Bool.and_eq_true, decide_eq_true_eq] at h
  unfold Lib.itoa
  by_cases hz : z < 0
  · rw [if_pos hz]
    obtain ⟨h1, h2, h3, h4⟩ := dec_facts z.natAbs
    have h4 := h4 (by omega)
    have hf : formS (45 :: Lib.decDigits z.natAbs) = true := by
      unfold formS
      rw [dgOf_minus]
      have : (Lib.decDigits z.natAbs).isEmpty = false := by
        cases hh : Lib.decDigits z.natAbs with
        | nil => exact absurd hh h2
        | cons => rfl
      simp only [this, h1, decide_eq_false h4]
      rfl
    obtain ⟨hn, _, _⟩ := numS_val hf
    rw [hn, dgOf_minus]
    simp only [h3, if_true]
    congr 1
    omega
  · rw [if_neg hz]
    obtain ⟨h1, h2, h3, h4⟩ := dec_facts z.toNat
    have hf : formS (Lib.decDigits z.toNat) = true := by
      unfold formS
      rw [dgOf_dig h1]
      have he : (Lib.decDigits z.toNat).isEmpty = false := by
        cases hh : Lib.decDigits z.toNat with
        | nil => exact absurd hh h2
        | cons => rfl
      have h48 : (decide ((Lib.decDigits z.toNat).head? = some 48) && !(Lib.decDigits z.toNat == [48])) = false := by
        by_cases h0 : z.toNat = 0
        · rw [h0, decDigits_lt (by omega)]; rfl
        · rw [decide_eq_false (h4 h0)]; rfl
      simp only [he, h48, h1]
      rfl
    obtain ⟨hn, _, _⟩ := numS_val hf
    rw [hn, dgOf_dig h1]
    simp only [h3]
    rw [if_neg (by simp)]
    congr 1
    omega
/-- digits without a leading zero are those of their value -/
theorem dec_val (n : Nat) : ∀ d : L8, d.length = n → d.all isDig = true → d ≠ [] → d.head? ≠ some 48 → Lib.decDigits (val 0 d).toNat = d ∧ 1 ≤ val 0 d := by
  induction n with
  | zero => intro d hd _ h; exact absurd (List.eq_nil_of_length_eq_zero hd) h
  | succ n ih =>
    intro d hd hall hne h48
    obtain ⟨a, c, rfl⟩ : ∃ a c, d = a ++ [c] := ⟨d.dropLast, d.getLast hne, (List.dropLast_concat_getLast hne).symm⟩
    rw [List.all_append] at hall
    simp only [Bool.and_eq_true, List.all_cons, List.all_nil, Bool.and_true] at hall
    obtain ⟨ha, hc⟩ := hall
    unfold isDig at hc
    simp only [Bool.and_eq_true, decide_eq_true_eq] at hc
    rw [val_snoc]
    cases a with
    | nil =>
      have hc48 : c.toNat ≠ 48 := fun e => h48 (by
        rw [show c = 48 from UInt8.toNat_inj.1 e]; rfl)
      show Lib.decDigits (10 * (0 : Int) + ((c.toNat : Int) - 48)).toNat = [c] ∧ _
      refine ⟨?_, by show 1 ≤ 10 * (0 : Int) + _; omega⟩
      rw [show (10 * (0 : Int) + ((c.toNat : Int) - 48)).toNat = c.toNat - 48 by omega, decDigits_lt (by omega), show 48 + (c.toNat - 48) = c.toNat by omega]
      simp
    | cons b a =>
      have hl : (b :: a).length = n := by simpa using hd
      obtain ⟨h1, h2⟩ := ih (b :: a) hl ha (by simp) (by simpa using h48)
      generalize val 0 (b :: a) = v at *
      refine ⟨?_, by omega⟩
      rw [decDigits_ge (by omega), show (10 * v + ((c.toNat : Int) - 48)).toNat / 10 = v.toNat by omega, show (10 * v + ((c.toNat : Int) - 48)).toNat % 10 = c.toNat - 48 by omega, h1, show 48 + (c.toNat - 48) = c.toNat by omega]
      simp
theorem itoa_numS {p : L8} (hf : (numS p).2 = true) (hr : inR (numS p).1 = true) : Lib.itoa (numS p).1 = p := by
  rw [numS_form] at hf
  obtain ⟨hn, hall, hv0⟩ := numS_val hf
  unfold formS at hf
  simp only [Bool.and_eq_true, Bool.not_eq_true'] at hf
  obtain ⟨hne, h48, _⟩ := hf
  rw [hn] at hr ⊢
  unfold inR at hr
  simp only [Bool.and_eq_true, decide_eq_true_eq] at hr
  unfold Lib.itoa
  have hcase : (∃ r, p = 45 :: r) ∨ (dgOf p = (p, false)) := by
    unfold dgOf
    split
    · exact .inl ⟨_, rfl⟩
    · exact .inr rfl
  rcases hcase with ⟨r, rfl⟩ | hd
  · rw [dgOf_minus] at *
    simp only [if_true] at hr ⊢
    have hne' : r ≠ [] := fun e => by rw [e] at hne; cases hne
    have h48' : r.head? ≠ some 48 := fun e => by
      rw [e] at h48
      simp at h48
    obtain ⟨h1, h2⟩ := dec_val r.length r rfl hall hne' h48'
    generalize val 0 r = v at *
    rw [if_pos (by omega), show (-(min v 1125899906842625)).natAbs = v.toNat by omega, h1]
  · rw [hd] at hr hall hne h48 hv0
    rw [hd]
    simp only [Bool.false_eq_true, if_false] at hr ⊢
    have hne' : p ≠ [] := fun e => by rw [e] at hne; cases hne
    by_cases hp : p.head? = some 48
    · have : p = [48] := by
        rw [hp] at h48
        simpa using h48
      subst this
      rw [if_neg (by decide)]
      rw [show (min (val 0 [48]) 1125899906842625).toNat = 0 from rfl, decDigits_lt (by omega)]
      rfl
    · obtain ⟨h1, h2⟩ := dec_val p.length p rfl hall hne' hp
      generalize val 0 p = v at *
      rw [if_neg (by omega), show (min v 1125899906842625).toNat = v.toNat by omega, h1]
/-! lines -/
def lineX (e : Event) : L8 := wordOf e.Kind.toNat ++ argsW e.Args
theorem dec_no (u : Nat) (c : UInt8) (hc : isDig c = false) : c ∉ Lib.decDigits u := fun hm => by
  have := List.all_eq_true.1 (dec_facts u).1 c hm
  rw [hc] at this; cases this
theorem itoa_no (z : Int) (c : UInt8) (hc : isDig c = false) (h45 : c ≠ 45) : c ∉ Lib.itoa z := by
  unfold Lib.itoa
  split
  · intro hm
    rcases List.mem_cons.1 hm with e | hm
    · exact h45 e
    · exact dec_no _ c hc hm
  · exact dec_no _ c hc
theorem argsW_cons (z : Int) (zs : List Int) : argsW (z :: zs) = 32 :: (Lib.itoa z ++ argsW zs) := by simp [argsW]
theorem pieces_args : ∀ (zs : List Int) (w : L8), 32 ∉ w → pieces 32 (w ++ argsW zs) = w :: zs.map Lib.itoa
  | [], w, h => by
    rw [show argsW [] = [] from rfl, List.append_nil]
    exact pieces_one w h
  | z :: zs, w, h => by
    rw [argsW_cons, pieces_app w _ h, pieces_args zs (Lib.itoa z) (itoa_no z 32 (by decide) (by decide))]
    rfl
theorem readS_line {e : Event} (h : errE e = 0) : readS (lineX e) = .inl e := by
  unfold errE at h
  split at h
  · rename_i hk
    split at h
    · rename_i hfit
      split at h
      · rename_i hall
        obtain ⟨k, hk0⟩ : ∃ k : Nat, e.Kind = (k : Int) := ⟨e.Kind.toNat, by omega⟩
        have hkn : e.Kind.toNat = k := by omega
        rw [hkn] at hfit
        have hw := word_facts k (by omega) (by omega)
        have h32 : (32 : UInt8) ∉ wordOf k := fun hm => by
          have := hw.2.2 32 hm
          have e : (32 : UInt8).toNat = 32 := rfl
          omega
        unfold readS lineX
        rw [hkn, pieces_args e.Args (wordOf k) h32]
        have hkf : kindF (wordOf k) = some (k - 1) := by
          have := kindF_word (k - 1) (by omega)
          rwa [show k - 1 + 1 = k by omega] at this
        simp only [hkf, List.length_map]
        have hnum : ∀ z, z ∈ e.Args → numS (Lib.itoa z) = (z, true) := fun z hz => numS_itoa (List.all_eq_true.1 hall z hz)
        have ha1 : (e.Args.map Lib.itoa).all (fun p => (numS p).2) = true := by
          rw [List.all_eq_true]
          intro p hp
          obtain ⟨z, hz, rfl⟩ := List.mem_map.1 hp
          rw [hnum z hz]
        have ha2 : (e.Args.map Lib.itoa).all (fun p => inR (numS p).1) = true := by
          rw [List.all_eq_true]
          intro p hp
          obtain ⟨z, hz, rfl⟩ := List.mem_map.1 hp
          rw [hnum z hz]
          exact List.all_eq_true.1 hall z hz
        have ha3 : (e.Args.map Lib.itoa).map (fun p => (numS p).1) = e.Args := by
          rw [List.map_map]
          conv => rhs; rw [← List.map_id e.Args]
          apply List.map_congr_left
          intro z hz
          show (numS (Lib.itoa z)).1 = z
          rw [hnum z hz]
        rw [show k - 1 + 1 = k by omega, ha1, ha2, hfit, ha3, ← hk0]
        rfl
      · cases h
    · cases h
  · cases h
theorem pieces_join {c : UInt8} : ∀ (l w : L8) (ps : List L8), pieces c l = w :: ps → l = w ++ ps.flatMap (fun p => c :: p)
  | [], w, ps, h => by
    simp only [pieces, List.cons.injEq] at h
    obtain ⟨rfl, rfl⟩ := h
    rfl
  | b :: l, w, ps, h => by
    rw [pieces_cons] at h
    split at h
    · rename_i hb
      injection h with h1 h2
      subst h1; subst h2; subst hb
      cases hp : pieces b l with
      | nil => exact absurd hp (pieces_ne _ _)
      | cons q qs =>
        have := pieces_join l q qs hp
        conv => lhs; rw [this]
        simp
    · cases hp : pieces c l with
      | nil => exact absurd hp (pieces_ne _ _)
      | cons q qs =>
        rw [hp] at h
        simp only [glue, List.cons.injEq] at h
        obtain ⟨rfl, rfl⟩ := h
        have := pieces_join l q qs hp
        conv => lhs; rw [this]
        simp
theorem readS_inl {a : L8} {e : Event} (h : readS a = .inl e) : errE e = 0 ∧ lineX e = a := by
  unfold readS at h
  split at h
  · cases h
  · rename_i w ps hp
    split at h
    · cases h
    · rename_i j hj
      split at h
      · rename_i hall
        split at h
        · rename_i hfit
          split at h
          · rename_i hin
            injection h with h
            obtain ⟨hj1, hj2⟩ := kindF_some hj
            have hkn : (((j + 1 : Nat) : Int)).toNat = j + 1 := by omega
            have hargs : ∀ p, p ∈ ps → Lib.itoa (numS p).1 = p := fun p hpp => itoa_numS (List.all_eq_true.1 hall p hpp) (List.all_eq_true.1 hin p hpp)
            subst h
            constructor
            · unfold errE
              rw [if_pos (by simp only; omega)]
              simp only [hkn, List.length_map]
              rw [hfit]
              have : (ps.map (fun p => (numS p).1)).all inR = true := by
                rw [List.all_map]; exact hin
              rw [this]
              rfl
            · unfold lineX
              simp only [hkn]
              rw [hj2, pieces_join a w ps hp]
              congr 1
              unfold argsW
              rw [List.flatMap_map]
              have : ∀ l : List L8, (∀ p, p ∈ l → Lib.itoa (numS p).1 = p) → l.flatMap (fun p => 32 :: Lib.itoa (numS p).1) = l.flatMap (fun p => (32 : UInt8) :: p) := by
                intro l
                induction l with
                | nil => intro _; rfl
                | cons q l ih =>
                  intro hl
                  rw [List.flatMap_cons, List.flatMap_cons, hl q (List.mem_cons_self ..), ih fun p hp => hl p (List.mem_cons_of_mem _ hp)]
              exact this ps hargs
          · cases h
        · cases h
      · cases h
theorem readS_err {a : L8} {z : Int} (h : readS a = .inr z) : z ≠ 0 := by
  unfold readS at h
  split at h
  · injection h with h; subst h; decide
  · split at h
    · injection h with h; subst h; decide
    · split at h
      · split at h
        · split at h
          · cases h
          · injection h with h; subst h; decide
        · injection h with h; subst h; decide
      · injection h with h; subst h; decide
theorem lineX_no10 {e : Event} (h : errE e = 0) : 10 ∉ lineX e ∧ skipL (lineX e) = false := by
  unfold errE at h
  split at h
  · rename_i hk
    have hw := word_facts e.Kind.toNat (by omega) (by omega)
    constructor
    · unfold lineX
      intro hm
      rcases List.mem_append.1 hm with hm | hm
      · have := hw.2.2 10 hm
        have e : (10 : UInt8).toNat = 10 := rfl
        omega
      · unfold argsW at hm
        obtain ⟨z, _, hz⟩ := List.mem_flatMap.1 hm
        rcases List.mem_cons.1 hz with hz | hz
        · cases hz
        · exact itoa_no z 10 (by decide) (by decide) hz
    · unfold lineX skipL
      cases hh : wordOf e.Kind.toNat with
      | nil => exact absurd hh hw.1
      | cons c r =>
        have := hw.2.2 c (by rw [hh]; exact List.mem_cons_self ..)
        have hc : c ≠ 35 := fun e => by
          subst e
          have : (35 : UInt8).toNat = 35 := rfl
          omega
        simp [hc]
  · cases h
theorem lineW_eq (e : Event) : lineW e = lineX e ++ [10] := rfl
theorem linesS_app {x : L8} (r : L8) : ∀ (x : L8), 10 ∉ x → linesS (x ++ 10 :: r) = x :: linesS r
  | [], _ => by rw [List.nil_append, linesS_cons, if_pos rfl]
  | b :: x, h => by
    have hb : ¬ b = 10 := fun e => h (by rw [e]; exact List.mem_cons_self ..)
    rw [List.cons_append, linesS_cons, if_neg hb, linesS_app (x := x) r x (fun hm => h (List.mem_cons_of_mem _ hm))]
    rfl
theorem linesS_print : ∀ (l : List Event), (∀ e, e ∈ l → errE e = 0) → linesS (l.flatMap lineW) = l.map lineX
  | [], _ => rfl
  | e :: l, h => by
    rw [List.flatMap_cons, lineW_eq, List.append_assoc, List.singleton_append, linesS_app (x := []) _ _ (lineX_no10 (h e (List.mem_cons_self ..))).1, linesS_print l fun e he => h e (List.mem_cons_of_mem _ he)]
    rfl
theorem printS_ok : ∀ (l : List Event) (acc : L8), (printS l acc).2 = 0 → (∀ e, e ∈ l → errE e = 0) ∧ (printS l acc).1 = acc ++ l.flatMap lineW
  | [], acc, _ => ⟨fun e he => by simp at he, by simp [printS]⟩
  | e :: l, acc, h => by
    rw [printS] at h ⊢
    split at h
    · rename_i he
      obtain ⟨h1, h2⟩ := printS_ok l _ h
      rw [if_pos he]
      refine ⟨fun x hx => ?_, by rw [h2]; simp⟩
      rcases List.mem_cons.1 hx with rfl | hx
      · exact he
      · exact h1 x hx
    · rename_i he
      exact absurd h he
theorem printS_bad : ∀ (l : List Event) (acc : L8), (printS l acc).2 ≠ 0 → (printS l acc).1 = []
  | [], acc, h => absurd rfl h
  | e :: l, acc, h => by
    rw [printS] at h ⊢
    split at h
    · rename_i he
      rw [if_pos he]
      exact printS_bad l _ h
    · rename_i he
      rw [if_neg he]
theorem printS_all : ∀ (l : List Event) (acc : L8), (∀ e, e ∈ l → errE e = 0) → printS l acc = (acc ++ l.flatMap lineW, 0)
  | [], acc, _ => by simp [printS]
  | e :: l, acc, h => by
    rw [printS, if_pos (h e (List.mem_cons_self ..)), printS_all l _ fun x hx => h x (List.mem_cons_of_mem _ hx)]
    simp
/-- lines of events are read -/
theorem goS_lines : ∀ (l : List Event) (n : Nat) (acc : List Event), (∀ e, e ∈ l → errE e = 0) → acc.length ≤ 400 →
    goS (l.map lineX) n acc = if acc.length + l.length ≤ 400 then (acc ++ l, 0, 0) else ([], ((n + (400 - acc.length) : Nat) : Int), 4)
  | [], n, acc, _, h => by
    simp [goS, h]
  | e :: l, n, acc, h, hacc => by
    have he := h e (List.mem_cons_self ..)
    rw [List.map_cons, goS, (lineX_no10 he).2, readS_line he]
    simp only [Bool.false_eq_true, if_false]
    by_cases h4 : 400 ≤ acc.length
    · rw [if_pos h4, if_neg (by simp; omega)]
      congr 2
      omega
    · rw [if_neg h4, goS_lines l (n + 1) (acc ++ [e]) (fun x hx => h x (List.mem_cons_of_mem _ hx)) (by simp; omega)]
      simp only [List.length_append, List.length_cons, List.length_nil, Nat.zero_add, List.append_assoc, List.singleton_append]
      by_cases hs : acc.length + 1 + l.length ≤ 400
      · rw [if_pos hs, if_pos (by omega)]
      · rw [if_neg hs, if_neg (by omega)]
        congr 2
        omega
end Go.Proofs.YtibcoiabdnbdjaaDoor

/- Script, plain: ScriptBack, ScriptLines, ScriptParts. No condition. -/
namespace Go.Proofs.YtibcoiabdnbdjaaDoor
open Go.Cm Go.Proofs
set_option linter.unusedVariables false
set_option maxRecDepth 100000
theorem script_Parse_long (N : Nat) (l : L8) (h : 20000 < l.length) : script_Parse N (ba l) = some ([], 0, 4) := by
  unfold script_Parse
  rw [size_ba, decide_eq_true (show (l.length : Int) > 20000 by omega)]
  rfl
theorem t_ScriptBack : AllW (fun y => y = some true) [.l_Event] (l60_ScriptBack 1000000) := by
  intro (x : List Event) _
  show l60_ScriptBack 1000000 x = some true
  unfold l60_ScriptBack
  rw [alive_eq _ (by omega)]
  simp only [Option.bind_some, Bool.not_true, cond_false]
  obtain ⟨b, hb, hs⟩ := small_eq 1000000 (by omega) x
  rw [hb]
  simp only [Option.bind_some]
  cases b with
  | false => rfl
  | true =>
    obtain ⟨h1, h2⟩ := hs rfl
    have hargs : ∀ e, e ∈ x → e.Args.length < 100000 ∧ e.Args.length < 1000000 := fun e he => by have := h2 e he; omega
    rw [script_Print_eq _ (by omega) x (by omega) hargs]
    simp only [Option.bind_some, Bool.not_true, cond_false]
    by_cases h0 : (printS x []).2 = 0
    · obtain ⟨hall, htxt⟩ := printS_ok x [] h0
      rw [List.nil_append] at htxt
      have e0 : ((printS x []).2 != 0) = false := by simp [h0]
      rw [e0, htxt, cond_false]
      generalize hT : x.flatMap lineW = t
      by_cases hl : 20000 < t.length
      · rw [script_Parse_long _ t hl]
        simp only [Option.bind_some]
        rw [decide_eq_true (show ((ba t).size : Int) > 20000 by rw [size_ba]; omega)]
        rfl
      · rw [script_Parse_eq _ t (by omega) (by omega)]
        simp only [Option.bind_some]
        rw [decide_eq_false (show ¬ ((ba t).size : Int) > 20000 by rw [size_ba]; omega), cond_false]
        have hp : parseS t = if x.length ≤ 400 then (x, 0, 0) else ([], 401, 4) := by
          unfold parseS
          rw [if_neg hl, ← hT, linesS_print x hall, goS_lines x 1 [] hall (by simp)]
          simp
        rw [hp]
        by_cases h4 : x.length ≤ 400
        · rw [if_pos h4, decide_eq_false (show ¬ (x.length : Int) > 400 by omega)]
          have := same_refl 1000000 x (by omega) (by omega) (fun e he => by have := h2 e he; omega)
          simp only [cond_false, beq_self_eq_true, cond_true, this]
          rfl
        · rw [if_neg h4, decide_eq_true (show (x.length : Int) > 400 by omega)]
          rfl
    · have e0 : ((printS x []).2 != 0) = true := by simp [h0]
      rw [e0, printS_bad x [] h0, cond_true, toList_ba]
      rfl
/-! the number of the first line -/
def shiftR (d : Nat) (r : List Event × Int × Int) : List Event × Int × Int := if r.2.2 = 0 then r else (r.1, r.2.1 + (d : Int), r.2.2)
theorem goS_shift (d : Nat) : ∀ (ls : List L8) (n : Nat) (acc : List Event), goS ls (n + d) acc = shiftR d (goS ls n acc)
  | [], n, acc => rfl
  | a :: ls, n, acc => by
    rw [goS, goS]
    split
    · rw [show n + d + 1 = n + 1 + d by omega]; exact goS_shift d ls (n + 1) acc
    · split
      · unfold shiftR
        rw [if_neg (show ¬ ((4 : Int) = 0) by decide)]
        simp
      · split
        · rw [show n + d + 1 = n + 1 + d by omega]; exact goS_shift d ls (n + 1) _
        · rename_i z hz
          unfold shiftR
          rw [if_neg (readS_err hz)]
          simp
theorem goS_fail : ∀ (ls : List L8) (n : Nat) (acc : List Event), (goS ls n acc).2.2 ≠ 0 → (goS ls n acc).1 = [] ∧ (n : Int) ≤ (goS ls n acc).2.1
  | [], n, acc, h => absurd rfl h
  | a :: ls, n, acc, h => by
    rw [goS] at h ⊢
    split
    · rename_i hs
      rw [if_pos hs] at h
      have := goS_fail ls (n + 1) acc h
      exact ⟨this.1, by have := this.2; omega⟩
    · rename_i hs
      rw [if_neg hs] at h
      split
      · exact ⟨rfl, Int.le_refl _⟩
      · rename_i h4
        rw [if_neg h4] at h
        split
        · rename_i e he
          rw [he] at h
          have := goS_fail ls (n + 1) _ h
          exact ⟨this.1, by have := this.2; omega⟩
        · exact ⟨rfl, Int.le_refl _⟩
/-- what is read does not hang on what was read before -/
theorem goS_move : ∀ (ls : List L8) (n : Nat) (acc : List Event), acc.length ≤ 400 → (goS ls n acc).2.2 = 0 →
    ∃ es, goS ls n acc = (acc ++ es, 0, 0) ∧ acc.length + es.length ≤ 400 ∧ (∀ (k : Nat) (acc2 : List Event), acc2.length + es.length ≤ 400 → goS ls k acc2 = (acc2 ++ es, 0, 0)) ∧
      (∀ e, e ∈ es → errE e = 0) ∧ (es.flatMap lineW).length ≤ (ls.map (fun a => a.length + 1)).sum
  | [], n, acc, h, _ => ⟨[], by simp [goS], by simpa using h, fun k acc2 _ => by simp [goS], fun e he => by simp at he, by simp⟩
  | a :: ls, n, acc, h, h0 => by
    rw [goS] at h0 ⊢
    split at h0
    · rename_i hs
      obtain ⟨es, h1, h2, h3, h4, h5⟩ := goS_move ls (n + 1) acc h h0
      refine ⟨es, by rw [if_pos hs]; exact h1, h2, fun k acc2 hk => ?_, h4, by rw [List.map_cons, List.sum_cons]; omega⟩
      rw [goS, if_pos hs]
      exact h3 (k + 1) acc2 hk
    · rename_i hs
      split at h0
      · cases h0
      · rename_i h4c
        split at h0
        · rename_i e he
          obtain ⟨es, h1, h2, h3, h4, h5⟩ := goS_move ls (n + 1) (acc ++ [e]) (by simp; omega) h0
          obtain ⟨he1, he2⟩ := readS_inl he
          simp only [List.length_append, List.length_cons, List.length_nil] at h2
          refine ⟨e :: es, ?_, by simp; omega, fun k acc2 hk => ?_, fun x hx => ?_, ?_⟩
          · rw [if_neg hs, if_neg h4c]
            show goS ls (n + 1) (acc ++ [e]) = _
            rw [h1]
            simp
          · simp only [List.length_cons] at hk
            rw [goS, if_neg hs, if_neg (by omega), he]
            show goS ls (k + 1) (acc2 ++ [e]) = _
            rw [h3 (k + 1) (acc2 ++ [e]) (by simp; omega)]
            simp
          · rcases List.mem_cons.1 hx with rfl | hx
            · exact he1
            · exact h4 x hx
          · rw [List.flatMap_cons, List.length_append, lineW_eq, he2]
            simp only [List.length_append, List.length_cons, List.length_nil, List.map_cons, List.sum_cons]
            omega
        · rename_i z hz
          exact absurd h0 (readS_err hz)
theorem goS_append : ∀ (xs ys : List L8) (n : Nat) (acc : List Event), goS (xs ++ ys) n acc = if (goS xs n acc).2.2 = 0 then goS ys (n + xs.length) (goS xs n acc).1 else goS xs n acc
  | [], ys, n, acc => by simp [goS]
  | a :: xs, ys, n, acc => by
    rw [List.cons_append, goS]
    have hx : goS (a :: xs) n acc = if skipL a then goS xs (n + 1) acc else if 400 ≤ acc.length then ([], (n : Int), 4) else
          match readS a with
          | .inl e => goS xs (n + 1) (acc ++ [e])
          | .inr e => ([], (n : Int), e) := by
      rw [goS]
      all_goals (cases readS a <;> rfl)
    rw [hx]
    simp only [List.length_cons]
    by_cases hs : skipL a = true
    · rw [if_pos hs, if_pos hs, goS_append xs ys (n + 1) acc, show n + 1 + xs.length = n + (xs.length + 1) by omega]
    · rw [if_neg hs, if_neg hs]
      by_cases h4 : 400 ≤ acc.length
      · rw [if_pos h4, if_pos h4, if_neg (show ¬ ((4 : Int) = 0) by decide)]
      · rw [if_neg h4, if_neg h4]
        cases hr : readS a with
        | inl e =>
          simp only
          rw [goS_append xs ys (n + 1) _, show n + 1 + xs.length = n + (xs.length + 1) by omega]
        | inr z =>
          simp only
          rw [if_neg (readS_err hr)]
theorem sum_lines : ∀ (l : L8), ((linesS l).map (fun a => a.length + 1)).sum ≤ l.length + 1
  | [] => by simp [linesS]
  | b :: l => by
    have ih := sum_lines l
    rw [linesS_cons]
    split
    · simp; omega
    · cases h : linesS l with
      | nil => simp [glue]
      | cons q qs =>
        rw [h] at ih
        simp only [glue, List.map_cons, List.sum_cons, List.length_append, List.length_cons, List.length_nil] at ih ⊢
        omega
theorem linesS_two : ∀ (s t : L8), linesS (s ++ 10 :: t) = pieces 10 s ++ linesS t
  | [], t => by rw [List.nil_append, linesS_cons, if_pos rfl]; rfl
  | b :: s, t => by
    rw [List.cons_append, linesS_cons, pieces_cons, linesS_two s t]
    split
    · rfl
    · cases h : pieces 10 s with
      | nil => exact absurd h (pieces_ne _ _)
      | cons q qs => rfl
theorem pieces_lines : ∀ (s : L8), pieces 10 s = linesS s ∨ pieces 10 s = linesS s ++ [[]]
  | [] => .inr rfl
  | b :: s => by
    rw [linesS_cons, pieces_cons]
    split
    · rcases pieces_lines s with h | h
      · exact .inl (by rw [h])
      · exact .inr (by rw [h]; rfl)
    · rcases pieces_lines s with h | h
      · exact .inl (by rw [h])
      · cases hl : linesS s with
        | nil =>
          rw [hl] at h
          exact .inl (by rw [h]; rfl)
        | cons q qs =>
          rw [hl] at h
          exact .inr (by rw [h]; rfl)
theorem goS_pieces (s : L8) (n : Nat) (acc : List Event) : goS (pieces 10 s) n acc = goS (linesS s) n acc := by
  rcases pieces_lines s with h | h
  · rw [h]
  · rw [h, goS_append]
    split
    · rename_i h0
      have hk : goS [[]] (n + (linesS s).length) (goS (linesS s) n acc).1 = ((goS (linesS s) n acc).1, 0, 0) := by
        rw [goS, if_pos (show skipL [] = true from rfl)]; rfl
      rw [hk]
      have key : ∀ (ls : List L8) (n : Nat) (acc : List Event), (goS ls n acc).2.2 = 0 → (goS ls n acc).2.1 = 0 := by
        intro ls
        induction ls with
        | nil => intro n acc _; rfl
        | cons a ls ih =>
          intro n acc h
          rw [goS] at h ⊢
          split
          · rename_i hs; rw [if_pos hs] at h; exact ih _ _ h
          · rename_i hs
            rw [if_neg hs] at h
            split
            · rename_i h4; rw [if_pos h4] at h; cases h
            · rename_i h4
              rw [if_neg h4] at h
              split
              · rename_i e he; rw [he] at h; exact ih _ _ h
              · rename_i z hz; rw [hz] at h; exact absurd h (readS_err hz)
      have h2 := key _ _ _ h0
      generalize goS (linesS s) n acc = r at *
      obtain ⟨r1, r2, r3⟩ := r
      simp only at h0 h2
      subst h0; subst h2
      rfl
    · rfl
theorem t_ScriptParts : AllW (fun y => y = some true) [.t_str, .t_str] (l60_ScriptParts 1000000) := by
  intro (x0 : ByteArray) _ (x1 : ByteArray) _
  show l60_ScriptParts 1000000 (ba (tl x0)) (ba (tl x1)) = some true
  generalize tl x0 = s
  generalize tl x1 = t
  unfold l60_ScriptParts
  rw [alive_eq _ (by omega)]
  simp only [Option.bind_some, Bool.not_true, cond_false]
  have hguard : (bif decide (((ba s).size : Int) > 9900) then some true else some (decide (((ba t).size : Int) > 9900))) = some (decide (9900 < s.length ∨ 9900 < t.length)) := by
    by_cases h : 9900 < s.length
    · rw [decide_eq_true (show ((ba s).size : Int) > 9900 by rw [size_ba]; omega), decide_eq_true (show 9900 < s.length ∨ 9900 < t.length from .inl h)]; rfl
    · rw [decide_eq_false (show ¬ ((ba s).size : Int) > 9900 by rw [size_ba]; omega), cond_false]
      congr 1
      by_cases h2 : 9900 < t.length
      · rw [decide_eq_true (show ((ba t).size : Int) > 9900 by rw [size_ba]; omega), decide_eq_true (show 9900 < s.length ∨ 9900 < t.length from .inr h2)]
      · rw [decide_eq_false (show ¬ ((ba t).size : Int) > 9900 by rw [size_ba]; omega), decide_eq_false (show ¬ (9900 < s.length ∨ 9900 < t.length) by omega)]
  rw [hguard]
  simp only [Option.bind_some]
  by_cases hbig : 9900 < s.length ∨ 9900 < t.length
  · rw [decide_eq_true hbig]; rfl
  · rw [decide_eq_false hbig, cond_false]
    rw [script_Parse_eq _ s (by omega) (by omega), script_Parse_eq _ t (by omega) (by omega)]
    simp only [Option.bind_some]
    have hb1 : ba s ++ bL [10] = ba (s ++ [10]) := by rw [bL_ba, ba_append]; rfl
    rw [decide_eq_true (show (ba s).size + 1 ≤ 9223372036854775807 by rw [size_ba]; omega), cond_true, hb1, decide_eq_true (show (ba (s ++ [10])).size + (ba t).size ≤ 9223372036854775807 by rw [size_ba, size_ba]; simp; omega), cond_true, ba_append, script_Parse_eq _ _ (by omega) (by simp; omega)]
    simp only [Option.bind_some]
    have hS : parseS s = goS (linesS s) 1 [] := by unfold parseS; rw [if_neg (by omega)]
    have hT : parseS t = goS (linesS t) 1 [] := by unfold parseS; rw [if_neg (by omega)]
    have hA : parseS (s ++ [10] ++ t) = if (parseS s).2.2 = 0 then goS (linesS t) (1 + (pieces 10 s).length) (parseS s).1 else parseS s := by
      rw [hS]
      unfold parseS
      rw [if_neg (by simp; omega), List.append_assoc, List.singleton_append, linesS_two, goS_append, goS_pieces]
    have hss := parseS_small s (by omega)
    have hts := parseS_small t (by omega)
    by_cases he : (parseS s).2.2 = 0
    · obtain ⟨es, p1, p2, p3, _, _⟩ := goS_move (linesS s) 1 [] (by simp) (by rw [← hS]; exact he)
      rw [List.nil_append] at p1
      rw [← hS] at p1
      by_cases hf : (parseS t).2.2 = 0
      · obtain ⟨fs, q1, q2, q3, _, _⟩ := goS_move (linesS t) 1 [] (by simp) (by rw [← hT]; exact hf)
        rw [List.nil_append] at q1
        rw [← hT] at q1
        rw [hA, if_pos he, p1, q1]
        simp only [bne_self_eq_false, cond_false, List.length_nil, Nat.zero_add] at p2 q2 ⊢
        rw [wrap64 (by omega) (by omega)]
        by_cases h4 : es.length + fs.length ≤ 400
        · have hg : ((es.length : Int) + (fs.length : Int) > 400) = False := eq_false (by omega)
          rw [q3 (1 + (pieces 10 s).length) es h4]
          have t1 : es.length * 32 ≤ 140737488355328 := by omega
          have t2 : (es.length + fs.length) * 32 ≤ 140737488355328 := by omega
          have hsm : ∀ e, e ∈ es ++ fs → e.Args.length ≤ 100000 := fun e hm => by
            rcases List.mem_append.1 hm with hm | hm
            · exact hss.2 e (by rw [p1]; exact hm)
            · exact hts.2 e (by rw [q1]; exact hm)
          have hsame := same_refl 1000000 (es ++ fs) (by simp; omega) (by simp; omega) (fun e hm => by have := hsm e hm; omega)
          simp only [hg, decide_false, Option.bind_some, cond_false, beq_self_eq_true, cond_true, decide_eq_true t1, List.nil_append, decide_eq_true t2, hsame]
        · have hg : ((es.length : Int) + (fs.length : Int) > 400) = True := eq_true (by omega)
          have hne : (goS (linesS t) (1 + (pieces 10 s).length) es).2.2 ≠ 0 := fun h0 => by
            obtain ⟨gs, r1, r2, r3, _, _⟩ := goS_move (linesS t) (1 + (pieces 10 s).length) es (by omega) h0
            have h5 := r3 1 [] (by simp; omega)
            rw [← hT, q1] at h5
            injection h5 with h5 _
            rw [List.nil_append] at h5
            subst h5
            omega
          obtain ⟨f1, f2⟩ := goS_fail _ _ _ hne
          have e5 : ((goS (linesS t) (1 + (pieces 10 s).length) es).2.2 != 0) = true := by simpa using hne
          simp only [hg, decide_true, Option.bind_some, cond_true, e5, f1, List.length_nil]
          rw [decide_eq_true (show (goS (linesS t) (1 + (pieces 10 s).length) es).2.1 > 0 by omega)]
          rfl
      · have hne : (goS (linesS t) (1 + (pieces 10 s).length) es).2.2 ≠ 0 := fun h0 => by
          obtain ⟨gs, r1, r2, r3, _, _⟩ := goS_move (linesS t) (1 + (pieces 10 s).length) es (by have := hss.1; rw [p1] at this; exact this) h0
          have h5 := r3 1 [] (by simp; omega)
          rw [← hT] at h5
          rw [h5] at hf
          exact hf rfl
        rw [hA, if_pos he, p1]
        obtain ⟨f1, f2⟩ := goS_fail _ _ _ hne
        have e5 : ((goS (linesS t) (1 + (pieces 10 s).length) es).2.2 != 0) = true := by simpa using hne
        have e6 : ((parseS t).2.2 != 0) = true := by simpa using hf
        simp only [bne_self_eq_false, cond_false, e6, cond_true, Option.bind_some, e5, f1, List.length_nil]
        rw [decide_eq_true (show (goS (linesS t) (1 + (pieces 10 s).length) es).2.1 > 0 by omega)]
        rfl
    · rw [hA, if_neg he]
      have he' := he
      rw [hS] at he'
      obtain ⟨f1, f2⟩ := goS_fail _ _ _ he'
      rw [← hS] at f1 f2
      have e5 : ((parseS s).2.2 != 0) = true := by simpa using he
      simp only [e5, cond_true, Option.bind_some, f1, List.length_nil]
      rw [decide_eq_true (show (parseS s).2.1 > 0 by omega)]
      rfl
end Go.Proofs.YtibcoiabdnbdjaaDoor

/- Script, plain: ScriptLines. No condition. -/
namespace Go.Proofs.YtibcoiabdnbdjaaDoor
open Go.Cm Go.Proofs
set_option linter.unusedVariables false
set_option maxRecDepth 100000
/-- how many line feeds -/
def feeds (l : L8) : Nat := l.countP fun c => decide (c = 10)
theorem feeds_print : ∀ (l : List Event), (∀ e, e ∈ l → errE e = 0) → feeds (l.flatMap lineW) = l.length
  | [], _ => rfl
  | e :: l, h => by
    have ih := feeds_print l fun x hx => h x (List.mem_cons_of_mem _ hx)
    have hno := (lineX_no10 (h e (List.mem_cons_self ..))).1
    unfold feeds at *
    rw [List.flatMap_cons, lineW_eq, List.countP_append, List.countP_append, ih]
    have : (lineX e).countP (fun c => decide (c = 10)) = 0 := by
      rw [List.countP_eq_zero]
      intro c hc hd
      exact hno (by rw [← of_decide_eq_true hd]; exact hc)
    rw [this]
    simp [List.countP_cons]
    omega
theorem feeds_loop (t : L8) (ht : t.length < 100000) : ∀ (M k m : Nat), k ≤ t.length → t.length - k < M → m ≤ k →
    whileF M
                                (fun (p10 : Int × Int) =>
                                  bif decide (p10.snd < ((ByteArray.size (ba t)) : Int)) then
                                    bif
                                        decide ((0 : Int) ≤ p10.snd) &&
                                          decide (p10.snd < ((ByteArray.size (ba t)) : Int)) then
                                      (bif byteAt (ba t) p10.snd == (10 : Int) then
                                            some (IntKind.i64.wrap (p10.fst + (1 : Int)))
                                          else some p10.fst).bind
                                        fun (r11 : Int) => some (Sum.inl (r11, IntKind.i64.wrap (p10.snd + (1 : Int))))
                                    else none
                                  else some (Sum.inr p10.fst))
                                ((m : Int), (k : Int)) = some ((m + feeds (t.drop k) : Nat) : Int)
  | 0, k, m, _, h, _ => by omega
  | M + 1, k, m, hk, hM, hm => by
    rw [whileF_succ]
    dsimp only
    by_cases hlt : k < t.length
    · have e1 : decide ((k : Int) < ((ba t).size : Int)) = true := decide_eq_true (by rw [size_ba]; omega)
      have e2 : decide ((0 : Int) ≤ (k : Int)) = true := decide_eq_true (by omega)
      simp only [e1, e2, Bool.and_self, cond_true]
      have hdrop : t.drop k = t.getD k 0 :: t.drop (k + 1) := by
        rw [List.drop_eq_getElem_cons hlt]; simp [List.getD, List.getElem?_eq_getElem hlt]
      rw [hdrop, byteAt_ba, wrapC (by omega), wrapC (by omega)]
      obtain ⟨c, hc⟩ : ∃ c, t.getD k 0 = c := ⟨_, rfl⟩
      rw [hc]
      unfold feeds
      rw [List.countP_cons]
      by_cases h10 : c = 10
      · subst h10
        have : (((10 : UInt8).toNat : Int) == 10) = true := rfl
        rw [this]
        simp only [cond_true, Option.bind_some, Sum.elim_inl, decide_true, if_true]
        rw [feeds_loop t ht M (k + 1) (m + 1) (by omega) (by omega) (by omega)]
        unfold feeds
        congr 1
        omega
      · have : ((c.toNat : Int) == 10) = false := by
          have : c.toNat ≠ 10 := fun e => h10 (UInt8.toNat_inj.1 e)
          simp; omega
        rw [this]
        simp only [cond_false, Option.bind_some, Sum.elim_inl, decide_eq_false h10, Bool.false_eq_true, if_false, Nat.add_zero]
        exact feeds_loop t ht M (k + 1) m (by omega) (by omega) (by omega)
    · have hkl : k = t.length := by omega
      subst hkl
      have e1 : decide ((t.length : Int) < ((ba t).size : Int)) = false := decide_eq_false (by rw [size_ba]; omega)
      rw [e1, List.drop_length]
      rfl
theorem t_ScriptLines : AllW (fun y => y = some true) [.t_str] (l60_ScriptLines 1000000) := by
  intro (x0 : ByteArray) _
  show l60_ScriptLines 1000000 (ba (tl x0)) = some true
  generalize tl x0 = s
  unfold l60_ScriptLines
  rw [alive_eq _ (by omega)]
  simp only [Option.bind_some, Bool.not_true, cond_false]
  by_cases hbig : 19000 < s.length
  · rw [decide_eq_true (show ((ba s).size : Int) > 19000 by rw [size_ba]; omega)]; rfl
  · rw [decide_eq_false (show ¬ ((ba s).size : Int) > 19000 by rw [size_ba]; omega), cond_false]
    have hb1 : bL [10] ++ ba s = ba (10 :: s) := by rw [bL_ba, ba_append]; rfl
    have hb2 : bL [35, 116, 105, 99, 107, 10] ++ ba s = ba ([35, 116, 105, 99, 107] ++ 10 :: s) := by rw [bL_ba, ba_append]; rfl
    rw [script_Parse_eq _ s (by omega) (by omega), Option.bind_some, decide_eq_true (show 1 + (ba s).size ≤ 9223372036854775807 by rw [size_ba]; omega), cond_true, hb1,
      script_Parse_eq _ (10 :: s) (by omega) (by simp; omega), Option.bind_some, decide_eq_true (show 6 + (ba s).size ≤ 9223372036854775807 by rw [size_ba]; omega), cond_true, hb2, script_Parse_eq _ _ (by omega) (by simp; omega), Option.bind_some]
    have hS : parseS s = goS (linesS s) 1 [] := by unfold parseS; rw [if_neg (by omega)]
    have hA : parseS (10 :: s) = shiftR 1 (parseS s) := by
      rw [hS]
      unfold parseS
      rw [if_neg (by simp; omega), linesS_cons, if_pos rfl, goS, if_pos (show skipL [] = true from rfl)]
      exact goS_shift 1 (linesS s) 1 []
    have hB : parseS ([35, 116, 105, 99, 107] ++ 10 :: s) = shiftR 1 (parseS s) := by
      rw [hS]
      unfold parseS
      rw [if_neg (by simp; omega), linesS_app (x := []) s [35, 116, 105, 99, 107] (by decide), goS, if_pos (show skipL [35, 116, 105, 99, 107] = true from rfl)]
      exact goS_shift 1 (linesS s) 1 []
    rw [hA, hB]
    have hsame := same_parse 1000000 (by omega) s (by omega)
    have hss := parseS_small s (by omega)
    by_cases he : (parseS s).2.2 = 0
    · have hsh : shiftR 1 (parseS s) = parseS s := by unfold shiftR; rw [if_pos he]
      obtain ⟨es, p1, p2, p3, p4, p5⟩ := goS_move (linesS s) 1 [] (by simp) (by rw [← hS]; exact he)
      rw [List.nil_append] at p1
      rw [← hS] at p1
      simp only [List.length_nil, Nat.zero_add] at p2
      rw [hsh]
      rw [p1] at hsame hss ⊢
      simp only at hsame hss
      have hpr := printS_all es [] p4
      rw [List.nil_append] at hpr
      have hsum := sum_lines s
      have htl : (es.flatMap lineW).length ≤ 19001 := by omega
      have hP := script_Print_eq 1000000 (by omega) es (by omega) (fun e hm => by have := hss.2 e hm; exact ⟨by
        have := readS_args (readS_line (p4 e hm))
        have h2 : (lineX e).length ≤ (es.flatMap lineW).length := by
          obtain ⟨a, b, rfl⟩ := List.append_of_mem hm
          rw [List.flatMap_append, List.flatMap_cons, lineW_eq]
          simp only [List.length_append]
          omega
        omega, by omega⟩)
      rw [hpr] at hP
      have hparse : parseS (es.flatMap lineW) = (es, 0, 0) := by
        unfold parseS
        rw [if_neg (by omega), linesS_print es p4, goS_lines es 1 [] p4 (by simp), if_pos (by simp; omega)]
        simp
      have hlp := feeds_loop (es.flatMap lineW) (by omega) 1000000 0 0 (by omega) (by omega) (by omega)
      rw [List.drop_zero, feeds_print es p4, Nat.zero_add] at hlp
      have hlp' : whileF 1000000 _ ((0 : Int), (0 : Int)) = some ((es.length : Int)) := hlp
      have hpt := script_Parse_eq 1000000 (es.flatMap lineW) (by omega) (by omega)
      rw [hparse] at hpt
      simp only [bne_self_eq_false, cond_false, hsame, Option.bind_some, Bool.not_true, hP, hpt]
      rw [hlp']
      simp only [Option.bind_some, beq_self_eq_true, cond_true]
    · have hsh : shiftR 1 (parseS s) = ((parseS s).1, (parseS s).2.1 + 1, (parseS s).2.2) := by unfold shiftR; rw [if_neg he]; rfl
      have he' := he
      rw [hS] at he'
      obtain ⟨f1, f2⟩ := goS_fail _ _ _ he'
      rw [← hS] at f1 f2
      rw [f1] at hsame
      rw [hsh]
      have e5 : ((parseS s).2.2 != 0) = true := by simpa using he
      simp only [bne_self_eq_false, cond_false, hsame, Option.bind_some, Bool.not_true, e5, cond_true, f1, List.length_nil]
      have hb : (parseS s).2.1 ≤ 9000000000000000000 := by
        rw [hS]
        have key : ∀ (ls : List L8) (n : Nat) (acc : List Event), (goS ls n acc).2.1 ≤ ((n + ls.length : Nat) : Int) := by
          intro ls
          induction ls with
          | nil => intro n acc; show (0 : Int) ≤ _; omega
          | cons a ls ih =>
            intro n acc
            rw [goS]
            split
            · have := ih (n + 1) acc; simp only [List.length_cons]; omega
            · split
              · simp only [List.length_cons]; omega
              · split
                · rename_i e _
                  have := ih (n + 1) (acc ++ [e]); simp only [List.length_cons]; omega
                · simp only [List.length_cons]; omega
        have := key (linesS s) 1 []
        have := (linesS_len s).1
        omega
      rw [wrap64 (by omega) (by omega)]
      simp
end Go.Proofs.YtibcoiabdnbdjaaDoor

