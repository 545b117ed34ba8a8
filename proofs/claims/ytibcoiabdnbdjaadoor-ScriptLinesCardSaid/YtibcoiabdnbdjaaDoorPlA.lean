/- Own texts in one module: Scr1 Scr2 Scr3 Scr4 Scr5 Scr6 Scr7 Scr8 Scr9 Scra Scrb. No condition. -/
import Derived.Test.YtibcoiabdnbdjaaDoorFn3
import Derived.Test.YtibcoiabdnbdjaaDoorCmq
import Derived.Test.YtibcoiabdnbdjaaDoorCmp
import Derived.Laws.Strings
import Derived.KernelRfl
/- Script, plain: strings as lists of bytes; cutting; numbers. No condition. -/
namespace Go.Proofs.YtibcoiabdnbdjaaDoor
open Go.Cm Go.Proofs
set_option linter.unusedVariables false
abbrev L8 := List UInt8
def tl (s : ByteArray) : L8 := s.data.toList
def ba (l : L8) : ByteArray := ⟨l.toArray⟩
theorem tl_ba (l : L8) : tl (ba l) = l := rfl
theorem ba_tl (s : ByteArray) : ba (tl s) = s := rfl
theorem toList_ba (l : L8) : (ba l).toList = l := by rw [ByteArray.toList_eq]; rfl
theorem size_ba (l : L8) : (ba l).size = l.length := rfl
theorem ba_append (a b : L8) : ba a ++ ba b = ba (a ++ b) := by
  apply ByteArray.ext
  simp [ba, ByteArray.data_append]
theorem ba_extract (l : L8) (i j : Nat) : (ba l).extract i j = ba ((l.drop i).take (j - i)) := by
  apply ByteArray.ext
  simp [ba, ByteArray.data_extract, List.extract_eq_take_drop]
theorem bL_ba (l : List Nat) : bL l = ba (l.map UInt8.ofNat) := rfl
theorem beq_ba (a b : L8) : ((ba a).toList == (ba b).toList) = (a == b) := by rw [toList_ba, toList_ba]
theorem byteAt_ba (l : L8) (i : Nat) : byteAt (ba l) i = ((l.getD i 0).toNat : Int) := by
  unfold byteAt
  have e : (ba l)[((i : Int).toNat)]? = l[i]? := by
    rw [Int.toNat_natCast]
    by_cases h : i < l.length
    · have h2 : i < (ba l).size := h
      rw [getElem?_pos (ba l) i h2, List.getElem?_eq_getElem h]
      rfl
    · have h2 : ¬ i < (ba l).size := h
      rw [getElem?_neg (ba l) i h2, List.getElem?_eq_none (by omega)]
  rw [e]
  simp [List.getD]

/-! cutting at a byte -/
def cutB (c : UInt8) : L8 → L8 × L8 × Bool
  | [] => ([], [], false)
  | b :: l => if b = c then ([], l, true) else (b :: (cutB c l).1, (cutB c l).2.1, (cutB c l).2.2)
theorem cut_none {c : UInt8} : ∀ {l : L8}, (cutB c l).2.2 = false → (cutB c l).1 = l ∧ (cutB c l).2.1 = [] ∧ Lib.indexByte l c = -1
  | [], _ => ⟨rfl, rfl, rfl⟩
  | b :: l, h => by
    unfold cutB at h ⊢
    by_cases hb : b = c
    · simp [hb] at h
    · rw [if_neg hb] at h ⊢
      obtain ⟨h1, h2, h3⟩ := cut_none (l := l) h
      exact ⟨by rw [h1], h2, by simp [Lib.indexByte, hb, h3]⟩
theorem cut_some {c : UInt8} : ∀ {l : L8}, (cutB c l).2.2 = true → l = (cutB c l).1 ++ c :: (cutB c l).2.1 ∧ Lib.indexByte l c = ((cutB c l).1.length : Int)
  | [], h => by cases h
  | b :: l, h => by
    unfold cutB at h ⊢
    by_cases hb : b = c
    · simp [hb, Lib.indexByte]
    · rw [if_neg hb] at h ⊢
      obtain ⟨h1, h2⟩ := cut_some (l := l) h
      refine ⟨by rw [List.cons_append, ← h1], ?_⟩
      have hn : ¬ (((cutB c l).1.length : Int) = -1) := by omega
      simp [Lib.indexByte, hb, h2, hn]
theorem cut_no_mem {c : UInt8} : ∀ (l : L8), c ∉ (cutB c l).1
  | [], h => by simp [cutB] at h
  | b :: l, h => by
    unfold cutB at h
    by_cases hb : b = c
    · simp [hb] at h
    · rw [if_neg hb] at h
      rcases List.mem_cons.1 h with h | h
      · exact hb h.symm
      · exact cut_no_mem l h
theorem cut_of {c : UInt8} : ∀ (a r : L8), c ∉ a → cutB c (a ++ c :: r) = (a, r, true)
  | [], r, _ => by simp [cutB]
  | b :: a, r, h => by
    have hb : ¬ b = c := fun e => h (by rw [e]; exact List.mem_cons_self ..)
    rw [List.cons_append, cutB, if_neg hb, cut_of a r (fun hm => h (List.mem_cons_of_mem _ hm))]
theorem cut_of_none {c : UInt8} : ∀ (a : L8), c ∉ a → cutB c a = (a, [], false)
  | [], _ => rfl
  | b :: a, h => by
    have hb : ¬ b = c := fun e => h (by rw [e]; exact List.mem_cons_self ..)
    rw [cutB, if_neg hb, cut_of_none a (fun hm => h (List.mem_cons_of_mem _ hm))]
theorem cut_rest_lt (c : UInt8) (l : L8) (h : l ≠ []) : (cutB c l).2.1.length < l.length := by
  cases hc : (cutB c l).2.2 with
  | false =>
    rw [(cut_none hc).2.1]
    exact List.length_pos_iff.2 h
  | true =>
    have := congrArg List.length (cut_some hc).1
    simp at this
    omega

theorem strings_Cut_eq (N : Nat) (l : L8) (k : Nat) (hl : l.length < 9000000000000000000) :
    strings_Cut N (ba l) (bL [k]) = some (ba (cutB (UInt8.ofNat k) l).1, ba (cutB (UInt8.ofNat k) l).2.1, (cutB (UInt8.ofNat k) l).2.2) := by
  generalize hc : UInt8.ofNat k = c
  have hi : stringslite_Index N (ba l) (bL [k]) = some (Lib.indexByte l c) := by
    unfold stringslite_Index ixB
    rw [bL_ba]
    simp only [List.map_cons, List.map_nil, hc]
    rfl
  unfold strings_Cut stringslite_Cut
  rw [hi]
  simp only [Option.bind_some]
  cases hf : (cutB c l).2.2 with
  | false =>
    obtain ⟨h1, h2, h3⟩ := cut_none hf
    rw [h3, h1, h2]
    simp [bL_ba]
  | true =>
    obtain ⟨h1, h2⟩ := cut_some hf
    have hlen := congrArg List.length h1
    simp only [List.length_append, List.length_cons] at hlen
    rw [h2]
    have hs : (bL [k]).size = 1 := rfl
    have hw : IntKind.i64.wrap (((cutB c l).1.length : Int) + ((bL [k]).size : Int)) = ((cutB c l).1.length + 1 : Nat) := by
      rw [hs]
      rw [wrap64 (by omega) (by omega)]
      omega
    rw [hw]
    have e1 : decide (((cutB c l).1.length : Int) ≥ 0) = true := by simp
    have e2 : decide (((cutB c l).1.length : Int) ≤ ((ba l).size : Int)) = true := by
      rw [size_ba]; simp; omega
    have e3 : decide ((0 : Int) ≤ (((cutB c l).1.length + 1 : Nat) : Int)) = true := by simp; omega
    have e4 : decide ((((cutB c l).1.length + 1 : Nat) : Int) ≤ ((ba l).size : Int)) = true := by
      rw [size_ba]; simp; omega
    rw [e1, e2, e3, e4]
    simp only [Bool.true_and]
    simp only [cond_true, Option.bind_some, Int.toNat_natCast, size_ba, ba_extract, Nat.sub_zero, List.drop_zero]
    have t1 : l.take (cutB c l).1.length = (cutB c l).1 := (congrArg (List.take _) h1).trans (by simp)
    have t2 : (l.drop ((cutB c l).1.length + 1)).take (l.length - ((cutB c l).1.length + 1)) = (cutB c l).2.1 := by
      have e : l.drop ((cutB c l).1.length + 1) = (cutB c l).2.1 := (congrArg (List.drop _) h1).trans (by simp [List.drop_append])
      rw [e]
      exact List.take_of_length_le (by omega)
    rw [t1, t2]

/-! numbers -/
def digs : Int → L8 → Option Int
  | n, [] => some n
  | n, c :: r => if c.toNat < 48 ∨ 57 < c.toNat then none else digs (min (10 * n + ((c.toNat : Int) - 48)) 1125899906842625) r
def dgOf (l : L8) : L8 × Bool := match l with
  | 45 :: r => (r, true)
  | l => (l, false)
def numS (l : L8) : Int × Bool :=
  if (dgOf l).1 = [] ∨ (dgOf l).1.head? = some 48 ∧ l ≠ [48] then (0, false) else
  match digs 0 (dgOf l).1 with
  | none => (0, false)
  | some n => (if (dgOf l).2 then -n else n, true)

theorem decode_ascii (l : L8) (p : Nat) (h : p < l.length) : ((l.getD p 0).toNat < 128 → runeAt (ba l) p = ((l.getD p 0).toNat : Int) ∧ runeW (ba l) p = 1) ∧ (¬ (l.getD p 0).toNat < 128 → 128 ≤ runeAt (ba l) p) := by
  have hg : (ba l).get! (p + 0) = l.getD p 0 := by
    simp [ba, ByteArray.get!, List.getD]
    rfl
  constructor
  · intro h1
    unfold runeAt runeW Utf8.decode
    simp only [hg, h1, if_true]
    exact ⟨trivial, trivial⟩
  · intro h1
    unfold runeAt Utf8.decode
    simp only [hg, h1, if_false]
    have hre : Utf8.runeError = 65533 := rfl
    split
    · split
      · rename_i h3; simp only; omega
      · simp [hre]
    · split
      · split
        · rename_i h3; simp only [Bool.and_eq_true, decide_eq_true_eq] at h3; simp only; omega
        · simp [hre]
      · split
        · split
          · rename_i h3; simp only [Bool.and_eq_true, decide_eq_true_eq] at h3; simp only; omega
          · simp [hre]
        · simp [hre]
end Go.Proofs.YtibcoiabdnbdjaaDoor

/- Script, plain: the code's number, the reference's form and value. No condition. -/
namespace Go.Proofs.YtibcoiabdnbdjaaDoor
open Go.Cm Go.Proofs
set_option linter.unusedVariables false
theorem beq_nil8 (l : L8) : (l == []) = l.isEmpty := by cases l <;> rfl
theorem u8lt (b : UInt8) : b.toNat < 256 := b.toNat_lt
theorem digs_bound : ∀ (l : L8) (n m : Int), 0 ≤ n → n ≤ 1125899906842625 → digs n l = some m → 0 ≤ m ∧ m ≤ 1125899906842625
  | [], n, m, h0, h1, h => by simp only [digs, Option.some.injEq] at h; omega
  | c :: r, n, m, h0, h1, h => by
    unfold digs at h
    have := u8lt c
    split at h
    · cases h
    · exact digs_bound r _ m (by omega) (by omega) h

theorem wrap32 {z : Int} (h1 : -2147483648 ≤ z) (h2 : z ≤ 2147483647) : IntKind.i32.wrap z = z := by
  show (let m := z % (2 ^ 32 : Int); if true && m ≥ (2 ^ 31 : Int) then m - (2 ^ 32 : Int) else m) = z
  simp only [Bool.true_and, decide_eq_true_eq]
  split <;> omega
/-- the loop over the digits -/
theorem number_loop (N : Nat) (l : L8) (hl : l.length < N) :
    whileF N (fun (p3 : Int × ByteArray × Nat) =>
                bif decide (p3.snd.snd < p3.snd.fst.size) then
                  (bif decide (runeAt p3.snd.fst p3.snd.snd < (48 : Int)) then some true
                      else some (decide (runeAt p3.snd.fst p3.snd.snd > (57 : Int)))).bind
                    fun (r4 : Bool) =>
                    bif r4 then
                      some (Sum.inr (Sum.inr ((0 : Int), false, p3.snd.fst, p3.snd.snd + runeW p3.snd.fst p3.snd.snd)))
                    else
                      some
                        (Sum.inl
                          (min
                              (IntKind.i64.wrap
                                (IntKind.i64.wrap ((10 : Int) * p3.fst) +
                                  IntKind.i64.wrap (IntKind.i32.wrap (runeAt p3.snd.fst p3.snd.snd - (48 : Int)))))
                              (1125899906842625 : Int),
                            p3.snd.fst, p3.snd.snd + runeW p3.snd.fst p3.snd.snd))
                else some (Sum.inr (Sum.inl p3))) ((0 : Int), ba l, 0) =
      some (match digs 0 l with
        | none => Sum.inr (0, false, ba l, (fst (fun i => decide ((l.getD i 0).toNat < 48) || decide (57 < (l.getD i 0).toNat)) l.length).getD 0 + runeW (ba l) ((fst (fun i => decide ((l.getD i 0).toNat < 48) || decide (57 < (l.getD i 0).toNat)) l.length).getD 0))
        | some n => Sum.inl (n, ba l, l.length)) := by
  have key : ∀ (k : Nat) (n : Int) (M : Nat), k ≤ l.length → (∀ j, j < k → ((decide ((l.getD j 0).toNat < 48) || decide (57 < (l.getD j 0).toNat)) = false)) → 0 ≤ n → n ≤ 1125899906842625 → l.length - k < M →
      whileF M (fun (p3 : Int × ByteArray × Nat) =>
                bif decide (p3.snd.snd < p3.snd.fst.size) then
                  (bif decide (runeAt p3.snd.fst p3.snd.snd < (48 : Int)) then some true
                      else some (decide (runeAt p3.snd.fst p3.snd.snd > (57 : Int)))).bind
                    fun (r4 : Bool) =>
                    bif r4 then
                      some (Sum.inr (Sum.inr ((0 : Int), false, p3.snd.fst, p3.snd.snd + runeW p3.snd.fst p3.snd.snd)))
                    else
                      some
                        (Sum.inl
                          (min
                              (IntKind.i64.wrap
                                (IntKind.i64.wrap ((10 : Int) * p3.fst) +
                                  IntKind.i64.wrap (IntKind.i32.wrap (runeAt p3.snd.fst p3.snd.snd - (48 : Int)))))
                              (1125899906842625 : Int),
                            p3.snd.fst, p3.snd.snd + runeW p3.snd.fst p3.snd.snd))
                else some (Sum.inr (Sum.inl p3))) (n, ba l, k) =
      some (match digs n (l.drop k) with
        | none => Sum.inr (0, false, ba l, (fst (fun i => decide ((l.getD i 0).toNat < 48) || decide (57 < (l.getD i 0).toNat)) l.length).getD 0 + runeW (ba l) ((fst (fun i => decide ((l.getD i 0).toNat < 48) || decide (57 < (l.getD i 0).toNat)) l.length).getD 0))
        | some n => Sum.inl (n, ba l, l.length)) := by
    intro k n M hk hb h0 h1 hM
    induction M generalizing k n with
    | zero => omega
    | succ M ih =>
      rw [whileF_succ]
      dsimp only
      by_cases hlt : k < l.length
      · have hd : decide (k < (ba l).size) = true := by rw [size_ba]; simpa using hlt
        rw [hd, cond_true]
        obtain ⟨hA, hB⟩ := decode_ascii l k hlt
        have hdrop : l.drop k = l.getD k 0 :: l.drop (k + 1) := by
          rw [List.drop_eq_getElem_cons hlt]; simp [List.getD, List.getElem?_eq_getElem hlt]
        rw [hdrop]
        obtain ⟨c, hc⟩ : ∃ c, l.getD k 0 = c := ⟨_, rfl⟩
        rw [hc] at hA hB
        rw [hc]
        unfold digs
        by_cases hdig : c.toNat < 48 ∨ 57 < c.toNat
        · rw [if_pos hdig]
          have hfst : fst (fun i => decide ((l.getD i 0).toNat < 48) || decide (57 < (l.getD i 0).toNat)) l.length = some k := fst_some.2 ⟨hlt, by simp only [hc]; simpa using hdig, hb⟩
          rw [hfst]
          by_cases h48 : runeAt (ba l) k < 48
          · have : decide (runeAt (ba l) k < 48) = true := by simpa using h48
            rw [this]
            rfl
          · have e1 : decide (runeAt (ba l) k < 48) = false := by simpa using h48
            have h57 : runeAt (ba l) k > 57 := by
              by_cases h128 : c.toNat < 128
              · rw [(hA h128).1] at h48 ⊢; omega
              · have := hB h128; omega
            have e2 : decide (runeAt (ba l) k > 57) = true := by simpa using h57
            rw [e1, e2]
            rfl
        · rw [if_neg hdig]
          have h128 : c.toNat < 128 := by omega
          obtain ⟨hr, hw⟩ := hA h128
          have e1 : decide (runeAt (ba l) k < 48) = false := decide_eq_false (by rw [hr]; omega)
          have e2 : decide (runeAt (ba l) k > 57) = false := decide_eq_false (by rw [hr]; omega)
          rw [e1, e2]
          simp only [cond_false, Option.bind_some, Sum.elim_inl, hr, hw]
          rw [wrap32 (z := (c.toNat : Int) - 48) (by omega) (by omega), wrap64 (z := (c.toNat : Int) - 48) (by omega) (by omega), wrap64 (z := 10 * n) (by omega) (by omega), wrap64 (by omega) (by omega)]
          exact ih (k + 1) _ (by omega) (fun j hj => by
            rcases Nat.lt_succ_iff_lt_or_eq.1 hj with h | rfl
            · exact hb j h
            · rw [hc]; simp only [Bool.or_eq_false_iff, decide_eq_false_iff_not]; omega) (by omega) (by omega) (by omega)
      · have hd : decide (k < (ba l).size) = false := by rw [size_ba]; simpa using hlt
        have hkl : k = l.length := by omega
        subst hkl
        rw [hd, cond_false, List.drop_length]
        rfl
  have := key 0 0 N (Nat.zero_le _) (fun j hj => by omega) (by omega) (by omega) (by omega)
  rw [List.drop_zero] at this
  exact this
theorem cutPrefix_minus (N : Nat) (l : L8) : strings_CutPrefix N (ba l) (bL [45]) = some (ba (dgOf l).1, (dgOf l).2) := by
  unfold strings_CutPrefix stringslite_CutPrefix stringslite_HasPrefix
  have hs : (bL [45]).size = 1 := rfl
  cases l with
  | nil => rfl
  | cons c r =>
    have e1 : decide (((ba (c :: r)).size : Int) ≥ ((bL [45]).size : Int)) = true := by rw [hs, size_ba]; simp; omega
    rw [e1, hs]
    simp only [Bool.true_and, cond_true, Option.bind_some, ba_extract, size_ba, bL_ba, beq_ba]
    have e3 : ((List.drop 0 (c :: r)).take (((1 : Nat) : Int).toNat - 0) == List.map UInt8.ofNat [45]) = (c == 45) := by
      show ([c] == [(45 : UInt8)]) = _
      simp
    rw [e3]
    have e4 : (List.drop ((1 : Nat) : Int).toNat (c :: r)).take (((c :: r).length : Int).toNat - ((1 : Nat) : Int).toNat) = r := by
      show (List.drop 1 (c :: r)).take ((c :: r).length - 1) = r
      simp
    rw [e4]
    by_cases hc : c = 45
    · subst hc
      rfl
    · have : (c == 45) = false := by simpa using hc
      rw [this]
      have hd : dgOf (c :: r) = (c :: r, false) := by
        unfold dgOf
        split
        · rename_i h; injection h with h _; exact absurd h hc
        · rfl
      rw [hd]
      rfl
theorem script_number_eq (N : Nat) (l : L8) (hl : l.length < N) : script_number N (ba l) = some (numS l) := by
  unfold script_number
  rw [cutPrefix_minus]
  simp only [Option.bind_some]
  have hdl : (dgOf l).1.length ≤ l.length := by
    unfold dgOf
    split <;> simp
  rw [show ((ba (dgOf l).1).toList == []) = (dgOf l).1.isEmpty by rw [toList_ba, beq_nil8]]
  rw [show ((ba l).toList == [(48 : UInt8)]) = (l == [48]) by rw [toList_ba]]
  have hlp := number_loop N (dgOf l).1 (by omega)
  generalize hd : (dgOf l).1 = d at *
  generalize hng : (dgOf l).2 = ng at *
  have tail : (Option.bind (some (match digs 0 d with
        | none => (Sum.inr (0, false, ba d, (fst (fun i => decide ((d.getD i 0).toNat < 48) || decide (57 < (d.getD i 0).toNat)) d.length).getD 0 + runeW (ba d) ((fst (fun i => decide ((d.getD i 0).toNat < 48) || decide (57 < (d.getD i 0).toNat)) d.length).getD 0)) : Int × ByteArray × Nat ⊕ Int × Bool × ByteArray × Nat)
        | some n => Sum.inl (n, ba d, d.length))) fun (r5 : Int × ByteArray × Nat ⊕ Int × Bool × ByteArray × Nat) =>
          Sum.elim
            (fun (p6 : Int × ByteArray × Nat) =>
              (bif ng then some (IntKind.i64.wrap ((0 : Int) - p6.fst)) else some p6.fst).bind fun (r7 : Int) =>
                some (r7, true))
            (fun (p8 : Int × Bool × ByteArray × Nat) => some (p8.fst, p8.snd.fst)) r5) = some (match digs 0 d with
      | none => (0, false)
      | some n => (if ng then -n else n, true)) := by
    cases hdg : digs 0 d with
    | none => rfl
    | some n =>
      obtain ⟨h0, h1⟩ := digs_bound d 0 n (by omega) (by omega) hdg
      simp only [Option.bind_some, Sum.elim_inl]
      cases ng with
      | false => rfl
      | true =>
        simp only [cond_true, Option.bind_some, if_true]
        rw [wrap64 (by omega) (by omega)]
        congr 2
        omega
  have hgoal : numS l = if d = [] ∨ d.head? = some 48 ∧ l ≠ [48] then (0, false) else match digs 0 d with
      | none => (0, false)
      | some n => (if ng then -n else n, true) := by
    unfold numS
    rw [hd, hng]
    all_goals (cases digs 0 d <;> rfl)
  rw [hgoal]
  cases d with
  | nil => rfl
  | cons c r =>
    have e1 : decide ((0 : Int) < ((ba (c :: r)).size : Int)) = true := decide_eq_true (by rw [size_ba]; simp)
    have e2 : byteAt (ba (c :: r)) 0 = (c.toNat : Int) := by
      have := byteAt_ba (c :: r) 0
      simpa using this
    rw [e1, e2]
    simp only [List.isEmpty_cons, cond_false, Bool.true_and, cond_true]
    by_cases hc : c = 48
    · subst hc
      by_cases hl48 : l = [48]
      · subst hl48
        have : ((48 : UInt8).toNat : Int) == 48 := rfl
        rw [this]
        simp only [cond_true, Option.bind_some, beq_self_eq_true, Bool.not_true, cond_false]
        rw [if_neg (by simp), hlp, tail]
      · have h2 : (l == [48]) = false := by simpa using hl48
        have : ((48 : UInt8).toNat : Int) == 48 := rfl
        rw [this, h2]
        rw [if_pos (.inr ⟨rfl, hl48⟩)]
        rfl
    · have h2 : ((c.toNat : Int) == 48) = false := by
        have : c.toNat ≠ 48 := fun e => hc (UInt8.toNat_inj.1 e)
        simp; omega
      rw [h2]
      simp only [cond_false, Option.bind_some]
      rw [if_neg (by simp [hc]), hlp, tail]
end Go.Proofs.YtibcoiabdnbdjaaDoor

/- Script, plain: kinds, words, numbers of arguments. No condition. -/
namespace Go.Proofs.YtibcoiabdnbdjaaDoor
open Go.Cm Go.Proofs
set_option linter.unusedVariables false
set_option maxRecDepth 100000
def wordOf (k : Nat) : L8 := tl (tab_0.getD k z_form).word
def argsOf (k : Nat) : Nat := (tab_0.getD k z_form).args.toNat
def moreOf (k : Nat) : Bool := (tab_0.getD k z_form).more
def fitsS (k n : Nat) : Bool := decide (n = argsOf k) || (moreOf k && (decide (argsOf k < n) && decide (n ≤ argsOf k + 40)))
/-- the kind of a word, less one -/
def kindF (w : L8) : Option Nat := fst (fun j => wordOf (j + 1) == w) 44
theorem tab_len : tab_0.length = 45 := rfl
theorem args_ok : ∀ k, k < 45 → (tab_0.getD k z_form).args = (argsOf k : Int) ∧ argsOf k ≤ 6 := by decide
theorem words_eq (N : Nat) : r60_words N = some (tab_0.map (·.word)) := by kernel_rfl
theorem kindOf_eq (N : Nat) (w : L8) (hN : 44 < N) : script_kindOf N (ba w) = some (match kindF w with | some j => (((j + 1 : Nat) : Int), true) | none => (0, false)) := by
  unfold script_kindOf
  rw [bindS (s0 := (1 : Int)) (fun j => ((j + 1 : Nat) : Int)) rfl (fun j => wordOf (j + 1) == w) (fun j => (((j + 1 : Nat) : Int), true)) () 44 hN]
  · unfold kindF
    cases fst (fun j => wordOf (j + 1) == w) 44 <;> rfl
  · intro i hi _
    have e1 : decide (((i + 1 : Nat) : Int) < 45) = true := decide_eq_true (by omega)
    have e2 : decide ((0 : Int) ≤ ((i + 1 : Nat) : Int)) = true := decide_eq_true (by omega)
    have e3 : decide (((i + 1 : Nat) : Int) < 45 ∧ ((i + 1 : Nat) : Int) < (tab_0.length : Int)) = true := decide_eq_true (by rw [tab_len]; omega)
    simp only [e1, e2, e3, cond_true, Bool.and_self, Int.toNat_natCast]
    rw [show ((tab_0.getD (i + 1) z_form).word.toList == (ba w).toList) = (wordOf (i + 1) == w) by rw [toList_ba, ByteArray.toList_eq]; rfl]
    rw [wrapC (by omega)]
  · intro _
    rfl
theorem r60_Kind_eq (N : Nat) (w : L8) (hN : 44 < N) : r60_Kind N (ba w) = some (match kindF w with | some j => ((j + 1 : Nat) : Int) | none => 0) := by
  unfold r60_Kind
  rw [words_eq]
  simp only [Option.bind_some]
  have hlen : (tab_0.map (·.word)).length = 45 := rfl
  rw [bindS (s0 := (1 : Int)) (fun j => ((j + 1 : Nat) : Int)) rfl (fun j => wordOf (j + 1) == w) (fun j => ((j + 1 : Nat) : Int)) () 44 hN]
  · unfold kindF
    cases fst (fun j => wordOf (j + 1) == w) 44 <;> rfl
  · intro i hi _
    have e1 : decide (((i + 1 : Nat) : Int) < ((tab_0.map (·.word)).length : Int)) = true := decide_eq_true (by rw [hlen]; omega)
    have e2 : decide ((0 : Int) ≤ ((i + 1 : Nat) : Int)) = true := decide_eq_true (by omega)
    simp only [e1, e2, cond_true, Bool.and_self, Int.toNat_natCast]
    have e4 : (tab_0.map (·.word)).getD (i + 1) (bL []) = (tab_0.getD (i + 1) z_form).word := by
      have h : i + 1 < tab_0.length := by rw [tab_len]; omega
      simp [List.getD, List.getElem?_eq_getElem h]
    rw [e4]
    rw [show ((tab_0.getD (i + 1) z_form).word.toList == (ba w).toList) = (wordOf (i + 1) == w) by rw [toList_ba, ByteArray.toList_eq]; rfl]
    rw [wrapC (by omega)]
  · intro _
    rfl
theorem kindF_some {w : L8} {j : Nat} (h : kindF w = some j) : j < 44 ∧ wordOf (j + 1) = w := by
  obtain ⟨h1, h2, _⟩ := fst_some.1 h
  exact ⟨h1, by simpa using h2⟩
theorem word_facts : ∀ k, k < 45 → 1 ≤ k → wordOf k ≠ [] ∧ wordOf k ≠ [] ∧ (∀ c, c ∈ wordOf k → 97 ≤ c.toNat ∧ c.toNat ≤ 122) := by decide
theorem kindF_word : ∀ k, k < 44 → kindF (wordOf (k + 1)) = some k := by decide
theorem script_fits_eq (N k n : Nat) (hk : k < 45) (hn : n < 4000000000000000000) : script_fits N (k : Int) (n : Int) = some (fitsS k n) := by
  unfold script_fits
  have e1 : decide ((0 : Int) ≤ (k : Int)) = true := decide_eq_true (by omega)
  have e2 : decide ((k : Int) < 45 ∧ (k : Int) < (tab_0.length : Int)) = true := decide_eq_true (by rw [tab_len]; omega)
  obtain ⟨ha, hb⟩ := args_ok k hk
  simp only [e1, e2, Bool.and_self, cond_true, Int.toNat_natCast]
  have hw : IntKind.i64.wrap ((n : Int) - (argsOf k : Int)) = (n : Int) - (argsOf k : Int) := wrap64 (by omega) (by omega)
  simp only [ha, hw]
  unfold fitsS
  rw [show (tab_0.getD k z_form).more = moreOf k from rfl]
  by_cases h : n = argsOf k
  · have e3 : (((n : Int) - (argsOf k : Int)) == 0) = true := by simp; omega
    rw [e3, decide_eq_true h]
    rfl
  · have e3 : (((n : Int) - (argsOf k : Int)) == 0) = false := by simp; omega
    rw [e3, decide_eq_false h]
    cases moreOf k with
    | false => rfl
    | true =>
      by_cases h2 : argsOf k < n
      · have e4 : ((n : Int) - (argsOf k : Int) > 0) = True := eq_true (by omega)
        simp only [e4, decide_true, decide_eq_true h2, cond_true, cond_false, Option.bind_some, Bool.false_or, Bool.true_and]
        congr 1
        by_cases h3 : n ≤ argsOf k + 40
        · have e5 : ((n : Int) - (argsOf k : Int) ≤ 40) = True := eq_true (by omega)
          simp only [e5, h3, decide_true]
        · have e5 : ((n : Int) - (argsOf k : Int) ≤ 40) = False := eq_false (by omega)
          simp only [e5, h3, decide_false]
      · have e4 : ((n : Int) - (argsOf k : Int) > 0) = False := eq_false (by omega)
        simp only [e4, decide_false, decide_eq_false h2]
        rfl
theorem arguments_eq (N : Nat) : ∀ k : Nat, k < 45 → 1 ≤ k → r59_Arguments N (k : Int) = some ((argsOf k : Int), moreOf k) := by
  have : ∀ k : Nat, k < 45 → 1 ≤ k → r59_Arguments 0 (k : Int) = some ((argsOf k : Int), moreOf k) := by decide
  exact this
theorem r60_fits_eq (N k n : Nat) (hk : k < 45) (h1 : 1 ≤ k) (hn : n < 4000000000000000000) : r60_fits N (k : Int) (n : Int) = some (fitsS k n) := by
  unfold r60_fits
  rw [arguments_eq N k hk h1]
  obtain ⟨ha, hb⟩ := args_ok k hk
  simp only [Option.bind_some]
  have hw : IntKind.i64.wrap ((argsOf k : Int) + 40) = (argsOf k : Int) + 40 := wrap64 (by omega) (by omega)
  simp only [hw]
  unfold fitsS
  by_cases h : n = argsOf k
  · have e3 : ((n : Int) == (argsOf k : Int)) = true := by simp; omega
    rw [e3, decide_eq_true h]
    rfl
  · have e3 : ((n : Int) == (argsOf k : Int)) = false := by simp; omega
    rw [e3, decide_eq_false h]
    cases moreOf k with
    | false => rfl
    | true =>
      by_cases h2 : argsOf k < n
      · have e4 : ((n : Int) > (argsOf k : Int)) = True := eq_true (by omega)
        simp only [e4, decide_true, decide_eq_true h2, cond_true, cond_false, Option.bind_some, Bool.false_or, Bool.true_and]
        congr 1
        by_cases h3 : n ≤ argsOf k + 40
        · have e5 : ((n : Int) ≤ (argsOf k : Int) + 40) = True := eq_true (by omega)
          simp only [e5, h3, decide_true]
        · have e5 : ((n : Int) ≤ (argsOf k : Int) + 40) = False := eq_false (by omega)
          simp only [e5, h3, decide_false]
      · have e4 : ((n : Int) > (argsOf k : Int)) = False := eq_false (by omega)
        simp only [e4, decide_false, decide_eq_false h2]
        rfl
def inR (z : Int) : Bool := decide (-1125899906842624 ≤ z) && decide (z ≤ 1125899906842624)
theorem inRange_eq (N : Nat) (z : Int) : script_inRange N z = some (inR z) := by
  unfold script_inRange inR
  by_cases h : -1125899906842624 ≤ z
  · rw [show decide (z ≥ -1125899906842624) = true from decide_eq_true h]; simp
  · rw [show decide (z ≥ -1125899906842624) = false from decide_eq_false h]; simp
end Go.Proofs.YtibcoiabdnbdjaaDoor

/- Script, plain: pieces of a string; the reference's form and value of a number. No condition. -/
namespace Go.Proofs.YtibcoiabdnbdjaaDoor
open Go.Cm Go.Proofs
set_option linter.unusedVariables false
def glue (w : L8) : List L8 → List L8
  | [] => [w]
  | p :: ps => (w ++ p) :: ps
def pieces (c : UInt8) : L8 → List L8
  | [] => [[]]
  | b :: l => if b = c then [] :: pieces c l else glue [b] (pieces c l)
theorem pieces_cons (c b : UInt8) (l : L8) : pieces c (b :: l) = if b = c then [] :: pieces c l else glue [b] (pieces c l) := rfl
theorem pieces_ne (c : UInt8) : ∀ l, pieces c l ≠ []
  | [] => by simp [pieces]
  | b :: l => by
    unfold pieces
    split
    · simp
    · cases h : pieces c l with
      | nil => exact absurd h (pieces_ne c l)
      | cons p ps => simp [glue]
theorem glue_nil {ps : List L8} (h : ps ≠ []) : glue [] ps = ps := by
  cases ps with
  | nil => exact absurd rfl h
  | cons p ps => simp [glue]
theorem glue_glue (w v : L8) (ps : List L8) : glue w (glue v ps) = glue (w ++ v) ps := by
  cases ps <;> simp [glue]
theorem pieces_some {c : UInt8} : ∀ {l : L8}, (cutB c l).2.2 = true → pieces c l = (cutB c l).1 :: pieces c (cutB c l).2.1
  | [], h => by cases h
  | b :: l, h => by
    unfold cutB at h ⊢
    rw [pieces_cons]
    by_cases hb : b = c
    · rw [if_pos hb, if_pos hb]
    · rw [if_neg hb] at h ⊢
      rw [if_neg hb, pieces_some (l := l) h]
      rfl
theorem pieces_none {c : UInt8} : ∀ {l : L8}, (cutB c l).2.2 = false → pieces c l = [l]
  | [], _ => rfl
  | b :: l, h => by
    unfold cutB at h
    unfold pieces
    by_cases hb : b = c
    · simp [hb] at h
    · rw [if_neg hb] at h ⊢
      rw [pieces_none (l := l) h]
      simp [glue]
theorem pieces_app {c : UInt8} : ∀ (a r : L8), c ∉ a → pieces c (a ++ c :: r) = a :: pieces c r
  | [], r, _ => by simp [pieces]
  | b :: a, r, h => by
    have hb : ¬ b = c := fun e => h (by rw [e]; exact List.mem_cons_self ..)
    rw [List.cons_append, pieces, if_neg hb, pieces_app a r (fun hm => h (List.mem_cons_of_mem _ hm))]
    rfl
theorem pieces_one {c : UInt8} : ∀ (a : L8), c ∉ a → pieces c a = [a]
  | [], _ => rfl
  | b :: a, h => by
    have hb : ¬ b = c := fun e => h (by rw [e]; exact List.mem_cons_self ..)
    rw [pieces, if_neg hb, pieces_one a (fun hm => h (List.mem_cons_of_mem _ hm))]
    rfl
theorem pieces_no_mem {c : UInt8} : ∀ (l : L8) (p : L8), p ∈ pieces c l → c ∉ p
  | [], p, h => by
    simp [pieces] at h; subst h; simp
  | b :: l, p, h => by
    unfold pieces at h
    split at h
    · rcases List.mem_cons.1 h with rfl | h
      · simp
      · exact pieces_no_mem l p h
    · rename_i hb
      cases hp : pieces c l with
      | nil => exact absurd hp (pieces_ne c l)
      | cons q qs =>
        rw [hp] at h
        rcases List.mem_cons.1 h with rfl | h
        · intro hm
          rcases List.mem_cons.1 (by simpa using hm) with e | e
          · exact hb e.symm
          · exact pieces_no_mem l q (by rw [hp]; exact List.mem_cons_self ..) e
        · exact pieces_no_mem l p (by rw [hp]; exact List.mem_cons_of_mem _ h)
/-- the lengths of the pieces -/
theorem pieces_len {c : UInt8} : ∀ (l : L8), (pieces c l).length ≤ l.length + 1 ∧ ∀ p, p ∈ pieces c l → p.length ≤ l.length
  | [] => by simp [pieces]
  | b :: l => by
    obtain ⟨h1, h2⟩ := pieces_len (c := c) l
    unfold pieces
    split
    · refine ⟨by simp; omega, fun p hp => ?_⟩
      rcases List.mem_cons.1 hp with rfl | hp
      · simp
      · have := h2 p hp; simp; omega
    · cases hp : pieces c l with
      | nil => exact absurd hp (pieces_ne c l)
      | cons q qs =>
        rw [hp] at h1 h2
        refine ⟨by simp only [glue, List.length_cons] at h1 ⊢; omega, fun p hpp => ?_⟩
        rcases List.mem_cons.1 hpp with rfl | hpp
        · have := h2 q (List.mem_cons_self ..); simp; omega
        · have := h2 p (List.mem_cons_of_mem _ hpp); simp; omega

/-! the reference's form -/
def isDig (c : UInt8) : Bool := decide (48 ≤ c.toNat) && decide (c.toNat ≤ 57)
def formS (l : L8) : Bool := !(dgOf l).1.isEmpty && (!(decide ((dgOf l).1.head? = some 48) && !(l == [48])) && (dgOf l).1.all isDig)
theorem digs_isSome : ∀ (l : L8) (n : Int), (digs n l).isSome = l.all isDig
  | [], n => rfl
  | c :: r, n => by
    unfold digs
    by_cases h : c.toNat < 48 ∨ 57 < c.toNat
    · rw [if_pos h]
      have : isDig c = false := by
        unfold isDig
        simp only [Bool.and_eq_false_iff, decide_eq_false_iff_not]; omega
      simp [this]
    · rw [if_neg h, digs_isSome r]
      have : isDig c = true := by
        unfold isDig
        simp only [Bool.and_eq_true, decide_eq_true_eq]; omega
      simp [this]
theorem numS_form (l : L8) : (numS l).2 = formS l := by
  unfold numS formS
  have hd := digs_isSome (dgOf l).1 0
  by_cases h : (dgOf l).1 = [] ∨ (dgOf l).1.head? = some 48 ∧ l ≠ [48]
  · rw [if_pos h]
    rcases h with h | ⟨h1, h2⟩
    · rw [h]; rfl
    · have : (l == [48]) = false := by simpa using h2
      rw [this, h1]; simp
  · rw [if_neg h]
    have hne : (dgOf l).1.isEmpty = false := by
      cases hh : (dgOf l).1 with
      | nil => exact absurd (.inl hh) h
      | cons => rfl
    have h2 : (decide ((dgOf l).1.head? = some 48) && !(l == [48])) = false := by
      cases hx : decide ((dgOf l).1.head? = some 48) && !(l == [48]) with
      | false => rfl
      | true =>
        simp only [Bool.and_eq_true, decide_eq_true_eq, Bool.not_eq_true', beq_eq_false_iff_ne] at hx
        exact absurd (.inr hx) h
    rw [hne, h2, ← hd]
    cases digs 0 (dgOf l).1 <;> rfl
theorem all_fst (l : L8) : (fst (fun i => decide ((l.getD i 0).toNat < 48) || decide (57 < (l.getD i 0).toNat)) l.length).isNone = l.all isDig := by
  cases h : fst (fun i => decide ((l.getD i 0).toNat < 48) || decide (57 < (l.getD i 0).toNat)) l.length with
  | none =>
    have := fst_none.1 h
    symm
    show l.all isDig = true
    rw [List.all_eq_true]
    intro c hc
    obtain ⟨i, hi, rfl⟩ := List.mem_iff_getElem.1 hc
    have h1 := this i hi
    rw [show l.getD i 0 = l[i] by simp [List.getD, List.getElem?_eq_getElem hi]] at h1
    simp only [Bool.or_eq_false_iff, decide_eq_false_iff_not] at h1
    unfold isDig
    simp only [Bool.and_eq_true, decide_eq_true_eq]; omega
  | some i =>
    obtain ⟨h1, h2, _⟩ := fst_some.1 h
    symm
    show l.all isDig = false
    rw [show l.getD i 0 = l[i] by simp [List.getD, List.getElem?_eq_getElem h1]] at h2
    simp only [Bool.or_eq_true, decide_eq_true_eq] at h2
    rw [List.all_eq_false]
    refine ⟨l[i], List.getElem_mem h1, ?_⟩
    unfold isDig
    simp only [Bool.and_eq_true, decide_eq_true_eq]; omega
/-- the reference's loop over the digits -/
theorem form_loop (N : Nat) (d : L8) (hN : d.length < N) (hb : d.length < 9000000000000000000) :
    (whileF N
                    (fun (p5 : Int) =>
                      bif decide (p5 < ((ba d).size : Int)) then
                        (bif decide ((0 : Int) ≤ p5) && decide (p5 < ((ba d).size : Int)) then
                              bif decide (byteAt (ba d) p5 < (48 : Int)) then some true
                              else
                                bif decide ((0 : Int) ≤ p5) && decide (p5 < ((ba d).size : Int)) then
                                  some (decide (byteAt (ba d) p5 > (57 : Int)))
                                else none
                            else none).bind
                          fun (r6 : Bool) =>
                          bif r6 then some (Sum.inr (Sum.inr false))
                          else some (Sum.inl (IntKind.i64.wrap (p5 + (1 : Int))))
                      else some (Sum.inr (Sum.inl ())))
                    (0 : Int)).bind (fun (r7 : Unit ⊕ Bool) => Sum.elim (fun (p8 : Unit) => some true) (fun (p9 : Bool) => some p9) r7) = some (d.all isDig) := by
  rw [bindS (s0 := (0 : Int)) (fun j => (j : Int)) rfl (fun i => decide ((d.getD i 0).toNat < 48) || decide (57 < (d.getD i 0).toNat)) (fun _ => false) () d.length hN]
  · rw [← all_fst]
    cases fst (fun i => decide ((d.getD i 0).toNat < 48) || decide (57 < (d.getD i 0).toNat)) d.length <;> rfl
  · intro i hi _
    have e1 : decide ((i : Int) < ((ba d).size : Int)) = true := decide_eq_true (by rw [size_ba]; omega)
    have e2 : decide ((0 : Int) ≤ (i : Int)) = true := decide_eq_true (by omega)
    simp only [e1, e2, Bool.and_self, cond_true]
    obtain ⟨c, hc⟩ : ∃ c, d.getD i 0 = c := ⟨_, rfl⟩
    rw [byteAt_ba, hc, wrapC (by omega)]
    by_cases h1 : c.toNat < 48
    · have e3 : decide ((c.toNat : Int) < 48) = true := decide_eq_true (by omega)
      rw [e3, decide_eq_true h1]
      rfl
    · have e3 : decide ((c.toNat : Int) < 48) = false := decide_eq_false (by omega)
      rw [e3, decide_eq_false h1]
      by_cases h2 : 57 < c.toNat
      · have e4 : decide ((c.toNat : Int) > 57) = true := decide_eq_true (by omega)
        rw [e4, decide_eq_true h2]; rfl
      · have e4 : decide ((c.toNat : Int) > 57) = false := decide_eq_false (by omega)
        rw [e4, decide_eq_false h2]; rfl
  · intro _
    have e1 : decide ((d.length : Int) < ((ba d).size : Int)) = false := decide_eq_false (by rw [size_ba]; omega)
    rw [e1]; rfl
theorem r60_form_eq (N : Nat) (l : L8) (hN : l.length < N) (hb : l.length < 9000000000000000000) : r60_form N (ba l) = some (formS l) := by
  unfold r60_form
  have core : ∀ d : L8, d.length ≤ l.length → (bif (ba d).toList == [] then some true
              else
                bif decide ((0 : Int) < ((ba d).size : Int)) then
                  bif byteAt (ba d) (0 : Int) == (48 : Int) then some (decide (((ba d).size : Int) > (1 : Int)))
                  else some false
                else none) = some (d.isEmpty || (decide (d.head? = some 48) && decide (1 < d.length))) := by
    intro d hd
    rw [toList_ba, beq_nil8]
    cases d with
    | nil => rfl
    | cons c r =>
      have e1 : decide ((0 : Int) < ((ba (c :: r)).size : Int)) = true := decide_eq_true (by rw [size_ba]; simp)
      have e2 : byteAt (ba (c :: r)) 0 = (c.toNat : Int) := by
        have := byteAt_ba (c :: r) 0
        simpa using this
      rw [e1, e2]
      simp only [List.isEmpty_cons, cond_false, Bool.true_and, cond_true, Bool.false_or]
      by_cases hc : c = 48
      · subst hc
        have : ((48 : UInt8).toNat : Int) == 48 := rfl
        rw [this]
        simp only [cond_true, List.head?_cons, decide_true, Bool.true_and]
        congr 1
        by_cases h : 1 < (48 :: r : L8).length
        · rw [decide_eq_true h]; exact decide_eq_true (by rw [size_ba]; omega)
        · rw [decide_eq_false h]; exact decide_eq_false (by rw [size_ba]; omega)
      · have h2 : ((c.toNat : Int) == 48) = false := by
          have : c.toNat ≠ 48 := fun e => hc (UInt8.toNat_inj.1 e)
          simp; omega
        rw [h2]
        simp [hc]
  cases l with
  | nil =>
    have e0 : decide (((ba []).size : Int) > 0) = false := rfl
    rw [e0]
    simp only [cond_false, Option.bind_some, Sum.elim_inl, Bool.true_and]
    rw [core [] (Nat.le_refl _)]
    rfl
  | cons c r =>
    have e0 : decide (((ba (c :: r)).size : Int) > 0) = true := decide_eq_true (by rw [size_ba]; simp)
    have e1 : decide ((0 : Int) < ((ba (c :: r)).size : Int)) = true := e0
    have e2 : byteAt (ba (c :: r)) 0 = (c.toNat : Int) := by
      have := byteAt_ba (c :: r) 0
      simpa using this
    have e3 : decide ((1 : Int) ≤ ((ba (c :: r)).size : Int)) = true := decide_eq_true (by rw [size_ba]; simp; omega)
    rw [e0, e2, e3]
    have ex : (ba (c :: r)).extract (1 : Int).toNat ((ba (c :: r)).size : Int).toNat = ba r := by
      rw [ba_extract, size_ba]
      show ba ((List.drop 1 (c :: r)).take ((c :: r).length - 1)) = ba r
      simp
    by_cases hc : c = 45
    · subst hc
      have : (((45 : UInt8).toNat : Int) == 45) = true := rfl
      rw [this]
      simp only [Bool.true_and, cond_true, Option.bind_some]
      rw [show (ba (45 :: r)).extract 1 ((ba (45 :: r)).size : Int).toNat = ba r from ex]
      rw [toList_ba]
      have hf : formS (45 :: r) = (!r.isEmpty && (!(decide (r.head? = some 48)) && r.all isDig)) := by
        unfold formS
        simp [dgOf]
      rw [hf]
      by_cases h0 : r = [48]
      · subst h0; rfl
      · have : (r == [48]) = false := by simpa using h0
        rw [this]
        simp only [cond_false, Option.bind_some, Sum.elim_inl]
        rw [core r (by simp)]
        simp only [Option.bind_some]
        rw [form_loop N r (by simp at hN; omega) (by simp at hb; omega)]
        cases r with
        | nil => rfl
        | cons b r =>
          by_cases hb48 : b = 48
          · subst hb48
            have : 1 < (48 :: r : L8).length := by
              cases r with
              | nil => exact absurd rfl h0
              | cons => simp
            rw [decide_eq_true this]
            rfl
          · simp [hb48]
    · have h2 : ((c.toNat : Int) == 45) = false := by
        have : c.toNat ≠ 45 := fun e => hc (UInt8.toNat_inj.1 e)
        simp; omega
      rw [h2]
      simp only [Bool.true_and, cond_true, cond_false, Option.bind_some, Sum.elim_inl]
      rw [core (c :: r) (Nat.le_refl _)]
      simp only [Option.bind_some]
      rw [form_loop N (c :: r) hN hb]
      have hd : dgOf (c :: r) = (c :: r, false) := by
        unfold dgOf
        split
        · rename_i h; injection h with h _; exact absurd h hc
        · rfl
      unfold formS
      rw [hd]
      by_cases hc48 : c = 48
      · subst hc48
        cases r with
        | nil => rfl
        | cons b r => simp
      · simp [hc48]
end Go.Proofs.YtibcoiabdnbdjaaDoor

/- Script, plain: the value of a number; a line is read. No condition. -/
namespace Go.Proofs.YtibcoiabdnbdjaaDoor
open Go.Cm Go.Proofs
set_option linter.unusedVariables false
def val : Int → L8 → Int
  | n, [] => n
  | n, c :: r => val (10 * n + ((c.toNat : Int) - 48)) r
theorem val_mono : ∀ (l : L8) (n : Int), 0 ≤ n → l.all isDig = true → n ≤ val n l
  | [], n, h0, _ => Int.le_refl _
  | c :: r, n, h0, h => by
    simp only [List.all_cons, Bool.and_eq_true] at h
    have hc := h.1
    unfold isDig at hc
    simp only [Bool.and_eq_true, decide_eq_true_eq] at hc
    have := val_mono r (10 * n + ((c.toNat : Int) - 48)) (by omega) h.2
    unfold val
    omega
theorem digs_val : ∀ (l : L8) (n : Int), 0 ≤ n → l.all isDig = true → digs (min n 1125899906842625) l = some (min (val n l) 1125899906842625)
  | [], n, h0, _ => rfl
  | c :: r, n, h0, h => by
    simp only [List.all_cons, Bool.and_eq_true] at h
    have hc := h.1
    unfold isDig at hc
    simp only [Bool.and_eq_true, decide_eq_true_eq] at hc
    unfold digs val
    rw [if_neg (by omega)]
    have ih := digs_val r (10 * n + ((c.toNat : Int) - 48)) (by omega) h.2
    rw [← ih]
    congr 1
    omega
theorem numS_val {l : L8} (h : formS l = true) : numS l = (if (dgOf l).2 then -(min (val 0 (dgOf l).1) 1125899906842625) else min (val 0 (dgOf l).1) 1125899906842625, true) ∧ (dgOf l).1.all isDig = true ∧ 0 ≤ val 0 (dgOf l).1 := by
  have h2 : (numS l).2 = true := by rw [numS_form, h]
  unfold formS at h
  simp only [Bool.and_eq_true] at h
  obtain ⟨_, _, hall⟩ := h
  refine ⟨?_, hall, val_mono _ 0 (by omega) hall⟩
  have hd := digs_val (dgOf l).1 0 (by omega) hall
  rw [show min (0 : Int) 1125899906842625 = 0 by rfl] at hd
  unfold numS at h2 ⊢
  split at h2
  · cases h2
  · rename_i hc
    rw [if_neg hc, hd]
theorem value_loop (N : Nat) (d : L8) (hN : d.length < N) (hb : d.length < 9000000000000000000) (hall : d.all isDig = true) :
    whileF N
            (fun (p2 : Int × Int) =>
              bif decide (p2.snd < ((ba d).size : Int)) then
                bif decide ((0 : Int) ≤ p2.snd) && decide (p2.snd < ((ba d).size : Int)) then
                  bif
                      decide
                        (IntKind.i64.wrap
                            (IntKind.i64.wrap ((10 : Int) * p2.fst) +
                              IntKind.i64.wrap (IntKind.u8.wrap (byteAt (ba d) p2.snd - (48 : Int)))) >
                          (1125899906842624 : Int)) then
                    some (Sum.inr (Sum.inr ((0 : Int), false)))
                  else
                    some
                      (Sum.inl
                        (IntKind.i64.wrap
                            (IntKind.i64.wrap ((10 : Int) * p2.fst) +
                              IntKind.i64.wrap (IntKind.u8.wrap (byteAt (ba d) p2.snd - (48 : Int)))),
                          IntKind.i64.wrap (p2.snd + (1 : Int))))
                else none
              else some (Sum.inr (Sum.inl p2.fst)))
            ((0 : Int), (0 : Int)) = some (if 1125899906842624 < val 0 d then Sum.inr ((0 : Int), false) else Sum.inl (val 0 d)) := by
  have key : ∀ (k : Nat) (n : Int) (M : Nat), k ≤ d.length → 0 ≤ n → n ≤ 1125899906842624 → d.length - k < M →
      whileF M
            (fun (p2 : Int × Int) =>
              bif decide (p2.snd < ((ba d).size : Int)) then
                bif decide ((0 : Int) ≤ p2.snd) && decide (p2.snd < ((ba d).size : Int)) then
                  bif
                      decide
                        (IntKind.i64.wrap
                            (IntKind.i64.wrap ((10 : Int) * p2.fst) +
                              IntKind.i64.wrap (IntKind.u8.wrap (byteAt (ba d) p2.snd - (48 : Int)))) >
                          (1125899906842624 : Int)) then
                    some (Sum.inr (Sum.inr ((0 : Int), false)))
                  else
                    some
                      (Sum.inl
                        (IntKind.i64.wrap
                            (IntKind.i64.wrap ((10 : Int) * p2.fst) +
                              IntKind.i64.wrap (IntKind.u8.wrap (byteAt (ba d) p2.snd - (48 : Int)))),
                          IntKind.i64.wrap (p2.snd + (1 : Int))))
                else none
              else some (Sum.inr (Sum.inl p2.fst)))
            (n, (k : Int)) = some (if 1125899906842624 < val n (d.drop k) then Sum.inr ((0 : Int), false) else Sum.inl (val n (d.drop k))) := by
    intro k n M hk h0 h1 hM
    induction M generalizing k n with
    | zero => omega
    | succ M ih =>
      rw [whileF_succ]
      dsimp only
      by_cases hlt : k < d.length
      · have e1 : decide ((k : Int) < ((ba d).size : Int)) = true := decide_eq_true (by rw [size_ba]; omega)
        have e2 : decide ((0 : Int) ≤ (k : Int)) = true := decide_eq_true (by omega)
        simp only [e1, e2, Bool.and_self, cond_true]
        have hdrop : d.drop k = d.getD k 0 :: d.drop (k + 1) := by
          rw [List.drop_eq_getElem_cons hlt]; simp [List.getD, List.getElem?_eq_getElem hlt]
        have hdig : isDig (d.getD k 0) = true := List.all_eq_true.1 hall _ (by rw [show d.getD k 0 = d[k] by simp [List.getD, List.getElem?_eq_getElem hlt]]; exact List.getElem_mem hlt)
        have hall' : (d.drop (k + 1)).all isDig = true := List.all_eq_true.2 fun c hc => List.all_eq_true.1 hall c (List.mem_of_mem_drop hc)
        rw [hdrop, byteAt_ba]
        obtain ⟨c, hc⟩ : ∃ c, d.getD k 0 = c := ⟨_, rfl⟩
        rw [hc] at hdig ⊢
        unfold isDig at hdig
        simp only [Bool.and_eq_true, decide_eq_true_eq] at hdig
        have hw8 : IntKind.u8.wrap ((c.toNat : Int) - 48) = (c.toNat : Int) - 48 := by
          show ((c.toNat : Int) - 48) % (2 ^ 8 : Int) = _
          omega
        have hw : IntKind.i64.wrap (IntKind.i64.wrap (10 * n) + IntKind.i64.wrap (IntKind.u8.wrap ((c.toNat : Int) - 48))) = 10 * n + ((c.toNat : Int) - 48) := by
          rw [hw8, wrap64 (z := (c.toNat : Int) - 48) (by omega) (by omega), wrap64 (z := 10 * n) (by omega) (by omega), wrap64 (by omega) (by omega)]
        simp only [hw]
        rw [wrapC (by omega)]
        show _ = some (if 1125899906842624 < val (10 * n + ((c.toNat : Int) - 48)) (d.drop (k + 1)) then Sum.inr ((0 : Int), false) else Sum.inl (val (10 * n + ((c.toNat : Int) - 48)) (d.drop (k + 1))))
        by_cases hgt : 1125899906842624 < 10 * n + ((c.toNat : Int) - 48)
        · have hm := val_mono (d.drop (k + 1)) (10 * n + ((c.toNat : Int) - 48)) (by omega) hall'
          rw [if_pos (by omega)]
          have e3 : (10 * n + ((c.toNat : Int) - 48) > 1125899906842624) = True := eq_true hgt
          simp only [e3, decide_true]
          rfl
        · have e3 : (10 * n + ((c.toNat : Int) - 48) > 1125899906842624) = False := eq_false hgt
          simp only [e3, decide_false, cond_false, Option.bind_some, Sum.elim_inl]
          exact ih (k + 1) _ (by omega) (by omega) (by omega) (by omega)
      · have hkl : k = d.length := by omega
        subst hkl
        have e1 : decide ((d.length : Int) < ((ba d).size : Int)) = false := decide_eq_false (by rw [size_ba]; omega)
        rw [e1, List.drop_length]
        show some (Sum.inl n) = some (if 1125899906842624 < n then Sum.inr ((0 : Int), false) else Sum.inl n)
        rw [if_neg (by omega)]
  exact key 0 0 N (Nat.zero_le _) (by omega) (by omega) (by omega)
theorem r60_value_eq (N : Nat) (l : L8) (hN : l.length < N) (hb : l.length < 9000000000000000000) (hf : formS l = true) :
    r60_value N (ba l) = some (if inR (numS l).1 then ((numS l).1, true) else (0, false)) := by
  obtain ⟨hn, hall, hv0⟩ := numS_val hf
  rw [hn]
  have hne : l ≠ [] := by
    intro h; subst h
    cases hf
  unfold r60_value
  cases l with
  | nil => exact absurd rfl hne
  | cons c r =>
    have e1 : decide ((0 : Int) < ((ba (c :: r)).size : Int)) = true := decide_eq_true (by rw [size_ba]; simp)
    have e2 : byteAt (ba (c :: r)) 0 = (c.toNat : Int) := by
      have := byteAt_ba (c :: r) 0
      simpa using this
    have e3 : decide ((1 : Int) ≤ ((ba (c :: r)).size : Int)) = true := decide_eq_true (by rw [size_ba]; simp; omega)
    have ex : (ba (c :: r)).extract (1 : Int).toNat ((ba (c :: r)).size : Int).toNat = ba r := by
      rw [ba_extract, size_ba]
      show ba ((List.drop 1 (c :: r)).take ((c :: r).length - 1)) = ba r
      simp
    rw [e1, e2, e3]
    have hstart : (bif (c.toNat : Int) == 45 then
          bif true && true then
            some ((ba (c :: r)).extract (1 : Nat) ((ba (c :: r)).size : Int).toNat, (-1 : Int))
          else none
        else some (ba (c :: r), (1 : Int))) = some (ba (dgOf (c :: r)).1, if (dgOf (c :: r)).2 then -1 else 1) := by
      by_cases hc : c = 45
      · subst hc
        have : (((45 : UInt8).toNat : Int) == 45) = true := rfl
        rw [this]
        exact congrArg (fun x => some (x, (-1 : Int))) ex
      · have h2 : ((c.toNat : Int) == 45) = false := by
          have : c.toNat ≠ 45 := fun e => hc (UInt8.toNat_inj.1 e)
          simp; omega
        have hd : dgOf (c :: r) = (c :: r, false) := by
          unfold dgOf
          split
          · rename_i h; injection h with h _; exact absurd h hc
          · rfl
        rw [h2, hd]
        rfl
    have hdl : (dgOf (c :: r)).1.length ≤ (c :: r).length := by
      unfold dgOf
      split
      · rename_i h; injection h with _ h; subst h; simp
      · exact Nat.le_refl _
    simp only [Bool.true_and, cond_true] at hstart ⊢
    rw [hstart]
    simp only [Option.bind_some]
    rw [value_loop N _ (by omega) (by omega) hall]
    simp only [Option.bind_some]
    generalize (dgOf (c :: r)).2 = ng at *
    generalize val 0 (dgOf (c :: r)).1 = v at *
    unfold inR
    by_cases hv : 1125899906842624 < v
    · rw [if_pos hv]
      have : min v 1125899906842625 = 1125899906842625 := by omega
      rw [this]
      cases ng <;> rfl
    · rw [if_neg hv]
      have : min v 1125899906842625 = v := by omega
      rw [this]
      simp only [Sum.elim_inl]
      cases ng with
      | true =>
        simp only [if_true]
        rw [wrap64 (by omega) (by omega), decide_eq_true (show -1125899906842624 ≤ -v by omega), decide_eq_true (show -v ≤ 1125899906842624 by omega)]
        simp
      | false =>
        simp only [Bool.false_eq_true, if_false]
        rw [wrap64 (by omega) (by omega), decide_eq_true (show -1125899906842624 ≤ v by omega), decide_eq_true (show v ≤ 1125899906842624 by omega)]
        simp
/-! a line -/
def readS (l : L8) : Event ⊕ Int :=
  match pieces 32 l with
  | [] => .inr 18
  | w :: ps => match kindF w with
    | none => .inr 18
    | some j => if ps.all (fun p => (numS p).2) then
        (if fitsS (j + 1) ps.length then (if ps.all (fun p => inR (numS p).1) then .inl ⟨((j + 1 : Nat) : Int), ps.map fun p => (numS p).1⟩ else .inr 2) else .inr 3)
      else .inr 3
def restP (rest : L8) (more : Bool) : List L8 := match more with
  | true => pieces 32 rest
  | false => []
theorem cut_restP (l : L8) : pieces 32 l = (cutB 32 l).1 :: restP (cutB 32 l).2.1 (cutB 32 l).2.2 := by
  cases h : (cutB 32 l).2.2 with
  | true => exact pieces_some h
  | false =>
    rw [pieces_none h, (cut_none h).1]; rfl
theorem cut_len (c : UInt8) (l : L8) : (cutB c l).1.length ≤ l.length ∧ (cutB c l).2.1.length ≤ l.length := by
  cases h : (cutB c l).2.2 with
  | true =>
    have := congrArg List.length (cut_some h).1
    simp at this
    omega
  | false =>
    obtain ⟨h1, h2, _⟩ := cut_none h
    rw [h1, h2]; simp
theorem read_loop (N : Nat) (n : Int) : ∀ (qs : List L8) (rest : L8) (more : Bool) (args : List Int) (right : Bool) (M : Nat), qs = restP rest more → rest.length < N → rest.length < 100000 → args.length + qs.length ≤ 200000 → qs.length < M →
    whileF M
                  (fun (p6 : ByteArray × Bool × List Int × Bool) =>
                    bif p6.snd.fst then
                      (strings_Cut N p6.fst (bL [(32 : Nat)])).bind fun (r7 : ByteArray × ByteArray × Bool) =>
                        (script_number N r7.fst).bind fun (r8 : Int × Bool) =>
                          (bif !r8.snd then some (Sum.inr (failure.mk n (3 : Int), ())) else some (Sum.inl ())).bind
                            fun (r9 : Unit ⊕ failure × Unit) =>
                            Sum.elim
                              (fun (p10 : Unit) =>
                                (some [r8.fst]).bind fun (r11 : List Int) =>
                                  bif
                                      decide
                                        ((List.length p6.snd.snd.fst + r11.length) * (8 : Nat) ≤
                                          (140737488355328 : Nat)) then
                                    (some (p6.snd.snd.fst ++ r11)).bind fun (r12 : List Int) =>
                                      (bif p6.snd.snd.snd then
                                            (script_inRange N r8.fst).bind fun (r13 : Bool) => some r13
                                          else some false).bind
                                        fun (r14 : Bool) => some (Sum.inl (r7.snd.fst, r7.snd.snd, r12, r14))
                                  else none)
                              (fun (p15 : failure × Unit) => some (Sum.inr (Sum.inr (p15.fst, ())))) r9
                    else some (Sum.inr (Sum.inl p6.snd.snd)))
                  (ba rest, more, args, right) = some (if qs.all (fun p => (numS p).2) then Sum.inl (args ++ qs.map (fun p => (numS p).1), right && qs.all (fun p => inR (numS p).1)) else Sum.inr (failure.mk n 3, ()))
  | qs, rest, more, args, right, 0, _, _, _, _, h => by omega
  | qs, rest, false, args, right, M + 1, hq, _, _, _, _ => by
    have : qs = [] := hq
    subst this
    rw [whileF_succ]
    simp
  | qs, rest, true, args, right, M + 1, hq, hN, hb, hlen, hM => by
    have hq' : qs = (cutB 32 rest).1 :: restP (cutB 32 rest).2.1 (cutB 32 rest).2.2 := hq.trans (cut_restP rest)
    obtain ⟨hl1, hl2⟩ := cut_len 32 rest
    rw [whileF_succ]
    dsimp only
    rw [strings_Cut_eq N rest 32 (by omega)]
    rw [show UInt8.ofNat 32 = 32 from rfl]
    simp only [cond_true, Option.bind_some]
    rw [script_number_eq N _ (by omega)]
    simp only [Option.bind_some]
    generalize hp : (cutB 32 rest).1 = p at *
    subst hq'
    cases hok : (numS p).2 with
    | false =>
      simp [hok]
    | true =>
      simp only [Bool.not_true, cond_false, Option.bind_some, Sum.elim_inl]
      have hcap : (args.length + [(numS p).1].length) * 8 ≤ 140737488355328 := by
        simp at hlen ⊢; omega
      rw [decide_eq_true hcap]
      simp only [cond_true]
      have hr : (bif right then (script_inRange N (numS p).1).bind fun (r13 : Bool) => some r13 else some false) = some (right && inR (numS p).1) := by
        cases right
        · rfl
        · rw [inRange_eq]; rfl
      rw [hr]
      simp only [Option.bind_some, Sum.elim_inl]
      have ih := read_loop N n (restP (cutB 32 rest).2.1 (cutB 32 rest).2.2) (cutB 32 rest).2.1 (cutB 32 rest).2.2 (args ++ [(numS p).1]) (right && inR (numS p).1) M rfl (by omega) (by omega) (by simp at hlen ⊢; omega) (by simp at hM; omega)
      refine ih.trans ?_
      simp only [List.all_cons, hok, Bool.true_and, List.map_cons, List.append_assoc, List.singleton_append, Bool.and_assoc]
theorem script_read_eq (N : Nat) (l : L8) (n : Int) (hN : l.length + 44 < N) (hb : l.length < 100000) : script_read N (ba l) n = some (match readS l with | .inl e => Sum.inl e | .inr e => Sum.inr (failure.mk n e)) := by
  have hp := cut_restP l
  have hpl := (pieces_len (c := 32) l).1
  obtain ⟨hl1, hl2⟩ := cut_len 32 l
  unfold script_read readS
  rw [strings_Cut_eq N l 32 (by omega)]
  rw [show UInt8.ofNat 32 = 32 from rfl]
  simp only [Option.bind_some]
  rw [kindOf_eq N _ (by omega)]
  rw [hp]
  rw [hp] at hpl
  simp only [List.length_cons] at hpl
  simp only [Option.bind_some]
  cases hk : kindF (cutB 32 l).1 with
  | none => rfl
  | some j =>
    have hj := (kindF_some hk).1
    simp only [Bool.not_true, cond_false, Option.bind_some, Sum.elim_inl]
    have hlp := read_loop N n _ (cutB 32 l).2.1 (cutB 32 l).2.2 [] true N rfl (by omega) (by omega) (by simp; omega) (by omega)
    simp only [Option.bind_some] at hlp
    rw [hlp]
    generalize restP (cutB 32 l).2.1 (cutB 32 l).2.2 = ps at *
    simp only [Option.bind_some]
    by_cases h1 : ps.all (fun p => (numS p).2) = true
    · rw [if_pos h1, if_pos h1]
      simp only [Sum.elim_inl, List.nil_append, Bool.true_and, List.length_map]
      rw [script_fits_eq N (j + 1) ps.length (by omega) (by omega)]
      simp only [Option.bind_some]
      cases h2 : fitsS (j + 1) ps.length with
      | false => rfl
      | true =>
        simp only [Bool.not_true, cond_false, Option.bind_some, Sum.elim_inl, if_true]
        cases h3 : ps.all (fun p => inR (numS p).1) <;> rfl
    · rw [if_neg h1, if_neg h1]
      rfl
end Go.Proofs.YtibcoiabdnbdjaaDoor

/- Script, plain: the reference reads a line as the code does. No condition. -/
namespace Go.Proofs.YtibcoiabdnbdjaaDoor
open Go.Cm Go.Proofs
set_option linter.unusedVariables false
theorem fst_all {α : Type} (q : α → Bool) (d : α) (ps : List α) : (fst (fun j => !(q (ps.getD j d))) ps.length).isNone = ps.all q := by
  cases h : fst (fun j => !(q (ps.getD j d))) ps.length with
  | none =>
    have := fst_none.1 h
    symm
    show ps.all q = true
    rw [List.all_eq_true]
    intro c hc
    obtain ⟨i, hi, rfl⟩ := List.mem_iff_getElem.1 hc
    have h1 := this i hi
    rw [show ps.getD i d = ps[i] by simp [List.getD, List.getElem?_eq_getElem hi]] at h1
    simpa using h1
  | some i =>
    obtain ⟨h1, h2, _⟩ := fst_some.1 h
    symm
    show ps.all q = false
    rw [show ps.getD i d = ps[i] by simp [List.getD, List.getElem?_eq_getElem h1]] at h2
    rw [List.all_eq_false]
    exact ⟨ps[i], List.getElem_mem h1, by simpa using h2⟩
theorem cut_loop (N : Nat) (l : L8) (hb : l.length < 100000) : ∀ (k : Nat) (out : List ByteArray) (w : L8) (M : Nat), k ≤ l.length → out.length ≤ k → w.length ≤ k → l.length - k < M →
    ∃ o v, whileF M
        (fun (p1 : List ByteArray × ByteArray × Int) =>
          bif decide (p1.snd.snd < ((ba l).size : Int)) then
            bif decide ((0 : Int) ≤ p1.snd.snd) && decide (p1.snd.snd < ((ba l).size : Int)) then
              (bif byteAt (ba l) p1.snd.snd == (32 : Int) then
                    (some [p1.snd.fst]).bind fun (r2 : List ByteArray) =>
                      bif decide ((List.length p1.fst + r2.length) * (16 : Nat) ≤ (140737488355328 : Nat)) then
                        (some (p1.fst ++ r2)).bind fun (r3 : List ByteArray) => some (r3, bL [])
                      else none
                  else
                    bif
                        decide ((0 : Int) ≤ p1.snd.snd) &&
                          (decide (p1.snd.snd ≤ IntKind.i64.wrap (p1.snd.snd + (1 : Int))) &&
                            decide (IntKind.i64.wrap (p1.snd.snd + (1 : Int)) ≤ ((ba l).size : Int))) then
                      bif
                          decide
                            (ByteArray.size p1.snd.fst +
                                ((ba l).extract (Int.toNat p1.snd.snd)
                                    (IntKind.i64.wrap (p1.snd.snd + (1 : Int))).toNat).size ≤
                              (9223372036854775807 : Nat)) then
                        some
                          (p1.fst,
                            p1.snd.fst ++
                              (ba l).extract (Int.toNat p1.snd.snd) (IntKind.i64.wrap (p1.snd.snd + (1 : Int))).toNat)
                      else none
                    else none).bind
                fun (r4 : List ByteArray × ByteArray) =>
                some (Sum.inl (r4.fst, r4.snd, IntKind.i64.wrap (p1.snd.snd + (1 : Int))))
            else none
          else some (Sum.inr (p1.fst, p1.snd.fst))) (out, ba w, (k : Int)) = some (o, v) ∧ o ++ [v] = out ++ (glue w (pieces 32 (l.drop k))).map ba ∧ o.length ≤ l.length
  | k, out, w, 0, _, _, _, h => by omega
  | k, out, w, M + 1, hk, ho, hw, hM => by
    rw [whileF_succ]
    dsimp only
    by_cases hlt : k < l.length
    · have e1 : decide ((k : Int) < ((ba l).size : Int)) = true := decide_eq_true (by rw [size_ba]; omega)
      have e2 : decide ((0 : Int) ≤ (k : Int)) = true := decide_eq_true (by omega)
      simp only [e1, e2, Bool.and_self, Bool.true_and, cond_true]
      have hdrop : l.drop k = l.getD k 0 :: l.drop (k + 1) := by
        rw [List.drop_eq_getElem_cons hlt]; simp [List.getD, List.getElem?_eq_getElem hlt]
      rw [hdrop, byteAt_ba, wrapC (by omega)]
      obtain ⟨c, hc⟩ : ∃ c, l.getD k 0 = c := ⟨_, rfl⟩
      rw [hc] at hdrop ⊢
      rw [pieces_cons]
      by_cases h32 : c = 32
      · subst h32
        have e3 : (((32 : UInt8).toNat : Int) == 32) = true := rfl
        have hcap : (out.length + [ba w].length) * 16 ≤ 140737488355328 := by simp; omega
        rw [e3]
        simp only [cond_true, Option.bind_some, decide_eq_true hcap, Sum.elim_inl]
        obtain ⟨o, v, h1, h2, h3⟩ := cut_loop N l hb (k + 1) (out ++ [ba w]) [] M (by omega) (by simp; omega) (by simp) (by omega)
        refine ⟨o, v, h1, ?_, h3⟩
        rw [h2, glue_nil (pieces_ne _ _)]
        simp [glue]
      · have e3 : ((c.toNat : Int) == 32) = false := by
          have : c.toNat ≠ 32 := fun e => h32 (UInt8.toNat_inj.1 e)
          simp; omega
        have e4 : decide ((k : Int) ≤ ((k + 1 : Nat) : Int)) = true := decide_eq_true (by omega)
        have e5 : decide (((k + 1 : Nat) : Int) ≤ ((ba l).size : Int)) = true := decide_eq_true (by rw [size_ba]; omega)
        have ex : (ba l).extract (k : Int).toNat ((k + 1 : Nat) : Int).toNat = ba [c] := by
          rw [ba_extract, Int.toNat_natCast, Int.toNat_natCast, hdrop, show k + 1 - k = 1 by omega]
          rfl
        have hsz : (ba w).size + (ba [c]).size ≤ 9223372036854775807 := by rw [size_ba, size_ba]; simp; omega
        simp only [e3, e4, e5, ex, cond_true, cond_false, Bool.and_self, decide_eq_true hsz, Option.bind_some, Sum.elim_inl]
        rw [if_neg h32, ba_append]
        obtain ⟨o, v, h1, h2, h3⟩ := cut_loop N l hb (k + 1) out (w ++ [c]) M (by omega) (by omega) (by simp; omega) (by omega)
        refine ⟨o, v, h1, ?_, h3⟩
        rw [h2, glue_glue]
    · have hkl : k = l.length := by omega
      subst hkl
      have e1 : decide ((l.length : Int) < ((ba l).size : Int)) = false := decide_eq_false (by rw [size_ba]; omega)
      rw [e1, List.drop_length]
      refine ⟨out, ba w, rfl, by simp [glue, pieces], by omega⟩
theorem r60_cut_eq (N : Nat) (l : L8) (hb : l.length < 100000) (hN : l.length < N) : r60_cut N (ba l) = some ((pieces 32 l).map ba) := by
  obtain ⟨o, v, h1, h2, h3⟩ := cut_loop N l hb 0 [] [] N (Nat.zero_le _) (Nat.le_refl _) (Nat.le_refl _) (by omega)
  unfold r60_cut
  have h1' : whileF N _ (([] : List ByteArray), bL [], (0 : Int)) = some (o, v) := h1
  rw [h1']
  rw [List.drop_zero, glue_nil (pieces_ne _ _), List.nil_append] at h2
  have hcap : (o.length + [v].length) * 16 ≤ 140737488355328 := by simp; omega
  simp only [Option.bind_some, decide_eq_true hcap, cond_true, h2]
theorem r60_line_eq (N : Nat) (l : L8) (hb : l.length < 100000) (hN : l.length + 44 < N) : r60_line N (ba l) = some (match readS l with | .inl e => (e, 0) | .inr e => (z_Event, e)) := by
  unfold r60_line readS
  rw [r60_cut_eq N l hb (by omega)]
  have hlen := pieces_len (c := 32) l
  cases hp : pieces 32 l with
  | nil => exact absurd hp (pieces_ne _ _)
  | cons w ps =>
    rw [hp] at hlen
    obtain ⟨hl1, hl2⟩ := hlen
    simp only [List.length_cons] at hl1
    have hsz : ∀ p, p ∈ ps → p.length ≤ l.length := fun p hm => hl2 p (List.mem_cons_of_mem _ hm)
    have hat : ∀ j, j < ps.length → ((w :: ps).map ba).getD (j + 1) (bL []) = ba (ps.getD j []) := fun j hj => by
      simp [List.getD, List.getElem?_eq_getElem hj]
    have hmem : ∀ j, j < ps.length → ps.getD j [] ∈ ps := fun j hj => by
      rw [show ps.getD j [] = ps[j] by simp [List.getD, List.getElem?_eq_getElem hj]]
      exact List.getElem_mem hj
    have hll : ((w :: ps).map ba).length = ps.length + 1 := by simp
    simp only [Option.bind_some]
    have e0 : decide ((0 : Int) < (((w :: ps).map ba).length : Int)) = true := decide_eq_true (by rw [hll]; omega)
    rw [e0]
    simp only [Bool.true_and, cond_true]
    rw [show ((w :: ps).map ba).getD 0 (bL []) = ba w from rfl]
    rw [r60_Kind_eq N w (by omega)]
    simp only [Option.bind_some]
    cases hk : kindF w with
    | none => rfl
    | some j0 =>
      have hj := (kindF_some hk).1
      have ek : ((((j0 + 1 : Nat) : Int)) == 0) = false := by simp; omega
      simp only [ek, cond_false]
      rw [bindS (s0 := ((1 : Int), z_Event)) (fun j => (((j + 1 : Nat) : Int), z_Event)) rfl (fun j => !((fun p => (numS p).2) (ps.getD j []))) (fun _ => ((3 : Int), z_Event)) z_Event ps.length (by omega)]
      · have hall := fst_all (fun p => (numS p).2) ([] : L8) ps
        cases hf : fst (fun j => !((fun p => (numS p).2) (ps.getD j []))) ps.length with
        | some i =>
          rw [hf] at hall
          have : ps.all (fun p => (numS p).2) = false := hall.symm
          rw [this]
          rfl
        | none =>
          rw [hf] at hall
          have hall : ps.all (fun p => (numS p).2) = true := hall.symm
          rw [hall]
          simp only [sres, Sum.elim_inl, if_true]
          rw [hll, wrap64 (by omega) (by omega), show ((ps.length + 1 : Nat) : Int) - 1 = (ps.length : Int) by omega, r60_fits_eq N (j0 + 1) ps.length (by omega) (by omega) (by omega)]
          simp only [Option.bind_some]
          cases h2 : fitsS (j0 + 1) ps.length with
          | false => rfl
          | true =>
            simp only [Bool.not_true, cond_false, if_true]
            rw [bindS (s0 := ((1 : Int), z_Event, Event.mk ((j0 + 1 : Nat) : Int) [])) (fun j => (((j + 1 : Nat) : Int), z_Event, Event.mk ((j0 + 1 : Nat) : Int) ((ps.take j).map fun p => (numS p).1))) rfl (fun j => !((fun p => inR (numS p).1) (ps.getD j [])))
              (fun j => ((2 : Int), z_Event, Event.mk ((j0 + 1 : Nat) : Int) ((ps.take j).map fun p => (numS p).1))) (z_Event, Event.mk ((j0 + 1 : Nat) : Int) (ps.map fun p => (numS p).1)) ps.length (by omega)]
            · have hall3 := fst_all (fun p => inR (numS p).1) ([] : L8) ps
              cases hf3 : fst (fun j => !((fun p => inR (numS p).1) (ps.getD j []))) ps.length with
              | some i =>
                rw [hf3] at hall3
                have : ps.all (fun p => inR (numS p).1) = false := hall3.symm
                rw [this]
                rfl
              | none =>
                rw [hf3] at hall3
                have : ps.all (fun p => inR (numS p).1) = true := hall3.symm
                rw [this]
                rfl
            · intro i hi _
              have e1 : decide (((i + 1 : Nat) : Int) < ((ps.length + 1 : Nat) : Int)) = true := decide_eq_true (by omega)
              have e2 : decide ((0 : Int) ≤ ((i + 1 : Nat) : Int)) = true := decide_eq_true (by omega)
              simp only [e1, e2, Bool.and_self, cond_true, Int.toNat_natCast]
              rw [hat i hi]
              have hform : formS (ps.getD i []) = true := by
                rw [← numS_form]
                exact List.all_eq_true.1 hall _ (hmem i hi)
              have hs := hsz _ (hmem i hi)
              rw [r60_value_eq N _ (by omega) (by omega) hform]
              simp only [Option.bind_some]
              cases hr : inR (numS (ps.getD i [])).1 with
              | false => rfl
              | true =>
                have hcap : (((ps.take i).map fun p => (numS p).1).length + [(numS (ps.getD i [])).1].length) * 8 ≤ 140737488355328 := by simp; omega
                simp only [if_true, Bool.not_true, cond_false, decide_eq_true hcap, cond_true]
                rw [wrapC (by omega)]
                congr 4
                congr 1
                rw [List.take_succ_eq_append_getElem hi, List.map_append, show ps.getD i [] = ps[i] by simp [List.getD, List.getElem?_eq_getElem hi]]
                rfl
            · intro _
              have e1 : decide (((ps.length + 1 : Nat) : Int) < ((ps.length + 1 : Nat) : Int)) = false := decide_eq_false (by omega)
              simp only [e1, cond_false, List.take_length]
      · intro i hi _
        have e1 : decide (((i + 1 : Nat) : Int) < (((w :: ps).map ba).length : Int)) = true := decide_eq_true (by rw [hll]; omega)
        have e2 : decide ((0 : Int) ≤ ((i + 1 : Nat) : Int)) = true := decide_eq_true (by omega)
        simp only [e1, e2, Bool.and_self, cond_true, Int.toNat_natCast]
        rw [hat i hi]
        have hs := hsz _ (hmem i hi)
        rw [r60_form_eq N _ (by omega) (by omega), ← numS_form]
        simp only [Option.bind_some]
        rw [wrapC (by omega)]
      · intro _
        have e1 : decide (((ps.length + 1 : Nat) : Int) < (((w :: ps).map ba).length : Int)) = false := decide_eq_false (by rw [hll]; omega)
        simp only [e1, cond_false]
end Go.Proofs.YtibcoiabdnbdjaaDoor

/- Script, plain: Parse, and the reference's. No condition. -/
namespace Go.Proofs.YtibcoiabdnbdjaaDoor
open Go.Cm Go.Proofs
set_option linter.unusedVariables false
/-- the lines of a script -/
def linesS : L8 → List L8
  | [] => []
  | b :: l => if b = 10 then [] :: linesS l else glue [b] (linesS l)
theorem linesS_cons (b : UInt8) (l : L8) : linesS (b :: l) = if b = 10 then [] :: linesS l else glue [b] (linesS l) := rfl
theorem linesS_cut : ∀ (l : L8), l ≠ [] → linesS l = (cutB 10 l).1 :: linesS (cutB 10 l).2.1
  | [], h => absurd rfl h
  | b :: l, _ => by
    rw [linesS_cons]
    unfold cutB
    by_cases hb : b = 10
    · rw [if_pos hb, if_pos hb]
    · rw [if_neg hb, if_neg hb]
      by_cases hl : l = []
      · subst hl
        rfl
      · rw [linesS_cut l hl]
        rfl
theorem linesS_len : ∀ (l : L8), (linesS l).length ≤ l.length ∧ ∀ p, p ∈ linesS l → p.length ≤ l.length
  | [] => by simp [linesS]
  | b :: l => by
    obtain ⟨h1, h2⟩ := linesS_len l
    rw [linesS_cons]
    split
    · refine ⟨by simp; omega, fun p hp => ?_⟩
      rcases List.mem_cons.1 hp with rfl | hp
      · simp
      · have := h2 p hp; simp; omega
    · cases hp : linesS l with
      | nil =>
        refine ⟨by simp [glue], fun p hpp => ?_⟩
        simp [glue] at hpp
        subst hpp; simp
      | cons q qs =>
        rw [hp] at h1 h2
        refine ⟨by simp only [glue, List.length_cons] at h1 ⊢; omega, fun p hpp => ?_⟩
        rcases List.mem_cons.1 hpp with rfl | hpp
        · have := h2 q (List.mem_cons_self ..); simp; omega
        · have := h2 p (List.mem_cons_of_mem _ hpp); simp; omega
def skipL (a : L8) : Bool := a.isEmpty || decide (a.head? = some 35)
def goS : List L8 → Nat → List Event → List Event × Int × Int
  | [], n, acc => (acc, 0, 0)
  | a :: ls, n, acc => if skipL a then goS ls (n + 1) acc else if 400 ≤ acc.length then ([], (n : Int), 4) else
    match readS a with
    | .inl e => goS ls (n + 1) (acc ++ [e])
    | .inr e => ([], (n : Int), e)
def parseS (l : L8) : List Event × Int × Int := if 20000 < l.length then ([], 0, 4) else goS (linesS l) 1 []
theorem skip_eq (a : L8) : (bif (ba a).toList == [] then some true
                        else
                          bif true && decide ((0 : Int) < ((ba a).size : Int)) then
                            some (byteAt (ba a) (0 : Int) == (35 : Int))
                          else none) = some (skipL a) := by
  rw [toList_ba, beq_nil8]
  cases a with
  | nil => rfl
  | cons c r =>
    have e1 : decide ((0 : Int) < ((ba (c :: r)).size : Int)) = true := decide_eq_true (by rw [size_ba]; simp)
    have e2 : byteAt (ba (c :: r)) 0 = (c.toNat : Int) := by
      have := byteAt_ba (c :: r) 0
      simpa using this
    rw [e1, e2]
    unfold skipL
    simp only [List.isEmpty_cons, cond_false, Bool.true_and, cond_true, Bool.false_or, List.head?_cons]
    congr 1
    by_cases hc : c = 35
    · subst hc; rfl
    · have h2 : ((c.toNat : Int) == 35) = false := by
        have : c.toNat ≠ 35 := fun e => hc (UInt8.toNat_inj.1 e)
        simp; omega
      rw [h2]
      symm
      exact decide_eq_false (fun e => hc (Option.some.inj e))
theorem parse_loop (N : Nat) (hN : 100100 < N) : ∀ (M : Nat) (l : L8) (n : Nat) (acc : List Event), l.length < M → l.length < 100000 → n + l.length < 1000000 → acc.length ≤ 400 →
    ∃ r, whileF M
          (fun (p1 : ByteArray × Int × List Event) =>
            bif !ByteArray.toList p1.fst == [] then
              ((strings_Cut N p1.fst (bL [(10 : Nat)])).bind fun (r2 : ByteArray × ByteArray × Bool) =>
                    (bif ByteArray.toList r2.fst == [] then some true
                        else
                          bif true && decide ((0 : Int) < ((ByteArray.size r2.fst) : Int)) then
                            some (byteAt r2.fst (0 : Int) == (35 : Int))
                          else none).bind
                      fun (r3 : Bool) =>
                      bif r3 then some (Sum.inl (r2.snd.fst, p1.snd.snd))
                      else
                        (bif decide (((List.length p1.snd.snd) : Int) ≥ (400 : Int)) then
                              some (Sum.inr (failure.mk p1.snd.fst (4 : Int), ()))
                            else some (Sum.inl ())).bind
                          fun (r4 : Unit ⊕ failure × Unit) =>
                          Sum.elim
                            (fun (p5 : Unit) =>
                              (script_read N r2.fst p1.snd.fst).bind fun (r6 : Event ⊕ failure) =>
                                Sum.elim
                                  (fun (p7 : Event) =>
                                    (some [p7]).bind fun (r8 : List Event) =>
                                      bif
                                          decide
                                            ((List.length p1.snd.snd + r8.length) * (32 : Nat) ≤
                                              (140737488355328 : Nat)) then
                                        (some (p1.snd.snd ++ r8)).bind fun (r9 : List Event) =>
                                          some (Sum.inl (r2.snd.fst, r9))
                                      else none)
                                  (fun (p10 : failure) => some (Sum.inr (p10, p1.snd.snd))) r6)
                            (fun (p11 : failure × Unit) => some (Sum.inr (p11.fst, p1.snd.snd))) r4).bind
                fun (r12 : ByteArray × List Event ⊕ failure × List Event) =>
                Sum.elim
                  (fun (p13 : ByteArray × List Event) =>
                    some (Sum.inl (p13.fst, IntKind.i64.wrap (p1.snd.fst + (1 : Int)), p13.snd)))
                  (fun (p14 : failure × List Event) => some (Sum.inr (Sum.inr p14))) r12
            else some (Sum.inr (Sum.inl p1.snd.snd))) (ba l, (n : Int), acc) = some r ∧
      Sum.elim (fun (p16 : List Event) => some (p16, (0 : Int), (0 : Int)))
        (fun (p17 : failure × List Event) => some ([], p17.fst.line, p17.fst.err)) r = some (goS (linesS l) n acc)
  | 0, l, n, acc, h, _, _, _ => by omega
  | M + 1, l, n, acc, hM, hb, hn, hacc => by
    rw [whileF_succ]
    dsimp only
    rw [toList_ba, beq_nil8]
    by_cases hl : l = []
    · subst hl
      exact ⟨Sum.inl acc, rfl, rfl⟩
    · have he : l.isEmpty = false := by
        cases l with
        | nil => exact absurd rfl hl
        | cons => rfl
      have hlt := cut_rest_lt 10 l hl
      obtain ⟨hl1, hl2⟩ := cut_len 10 l
      rw [he, strings_Cut_eq N l 10 (by omega), show UInt8.ofNat 10 = 10 from rfl, linesS_cut l hl]
      generalize (cutB 10 l).1 = a at *
      generalize (cutB 10 l).2.1 = rest at *
      have hsk := skip_eq a
      simp only [Bool.not_false, cond_true, Option.bind_some]
      rw [hsk]
      simp only [Option.bind_some]
      have hgo : goS (a :: linesS rest) n acc = if skipL a then goS (linesS rest) (n + 1) acc else if 400 ≤ acc.length then ([], (n : Int), 4) else
          match readS a with
          | .inl e => goS (linesS rest) (n + 1) (acc ++ [e])
          | .inr e => ([], (n : Int), e) := by rw [goS]
      rw [hgo]
      cases hs : skipL a with
      | true =>
        simp only [cond_true, Option.bind_some, Sum.elim_inl, if_true]
        rw [wrapC (by omega)]
        have ih := parse_loop N hN M rest (n + 1) acc (by omega) (by omega) (by omega) hacc
        simp only [Option.bind_some] at ih
        exact ih
      | false =>
        simp only [cond_false, Bool.false_eq_true, if_false]
        by_cases h4 : 400 ≤ acc.length
        · have e4 : ((acc.length : Int) ≥ 400) = True := eq_true (by omega)
          simp only [e4, decide_true, cond_true, Option.bind_some, Sum.elim_inr]
          exact ⟨_, rfl, by rw [if_pos h4]; rfl⟩
        · have e4 : ((acc.length : Int) ≥ 400) = False := eq_false (by omega)
          simp only [e4, decide_false, cond_false, Option.bind_some, Sum.elim_inl]
          rw [if_neg h4, script_read_eq N a _ (by omega) (by omega)]
          simp only [Option.bind_some]
          cases hr : readS a with
          | inr e =>
            exact ⟨_, rfl, rfl⟩
          | inl e =>
            have hcap : (acc.length + [e].length) * 32 ≤ 140737488355328 := by simp; omega
            simp only [Sum.elim_inl, decide_eq_true hcap, cond_true, Option.bind_some]
            rw [wrapC (by omega)]
            have ih := parse_loop N hN M rest (n + 1) (acc ++ [e]) (by omega) (by omega) (by omega) (by simp; omega)
            simp only [Option.bind_some] at ih
            exact ih
theorem script_Parse_eq (N : Nat) (l : L8) (hN : 100100 < N) (hb : l.length < 100000) : script_Parse N (ba l) = some (parseS l) := by
  unfold script_Parse parseS
  rw [size_ba]
  by_cases h : 20000 < l.length
  · have e1 : decide ((l.length : Int) > 20000) = true := decide_eq_true (by omega)
    rw [e1, if_pos h]
    rfl
  · have e1 : decide ((l.length : Int) > 20000) = false := decide_eq_false (by omega)
    rw [e1, if_neg h]
    obtain ⟨r, h1, h2⟩ := parse_loop N hN N l 1 [] (by omega) hb (by omega) (by simp)
    have h1' : whileF N _ (ba l, (1 : Int), ([] : List Event)) = some r := h1
    rw [cond_false, h1']
    exact h2
end Go.Proofs.YtibcoiabdnbdjaaDoor

/- Script, plain: the reference's Parse; equality of events. No condition. -/
namespace Go.Proofs.YtibcoiabdnbdjaaDoor
open Go.Cm Go.Proofs
set_option linter.unusedVariables false
theorem to_loop (l : L8) (hb : l.length < 100000) : ∀ (M k : Nat), k ≤ l.length → l.length - k < M →
    whileF M
                    (fun (p2 : Int) =>
                      (bif decide (p2 < ((ba l).size : Int)) then
                            bif decide ((0 : Int) ≤ p2) && decide (p2 < ((ba l).size : Int)) then
                              some (byteAt (ba l) p2 != (10 : Int))
                            else none
                          else some false).bind
                        fun (r3 : Bool) =>
                        bif r3 then some (Sum.inl (IntKind.i64.wrap (p2 + (1 : Int)))) else some (Sum.inr p2)) (k : Int) = some ((k + (cutB 10 (l.drop k)).1.length : Nat) : Int)
  | 0, k, _, h => by omega
  | M + 1, k, hk, hM => by
    rw [whileF_succ]
    by_cases hlt : k < l.length
    · have e1 : decide ((k : Int) < ((ba l).size : Int)) = true := decide_eq_true (by rw [size_ba]; omega)
      have e2 : decide ((0 : Int) ≤ (k : Int)) = true := decide_eq_true (by omega)
      simp only [e1, e2, Bool.and_self, cond_true]
      have hdrop : l.drop k = l.getD k 0 :: l.drop (k + 1) := by
        rw [List.drop_eq_getElem_cons hlt]; simp [List.getD, List.getElem?_eq_getElem hlt]
      rw [hdrop, byteAt_ba, wrapC (by omega)]
      obtain ⟨c, hc⟩ : ∃ c, l.getD k 0 = c := ⟨_, rfl⟩
      rw [hc]
      unfold cutB
      by_cases h10 : c = 10
      · subst h10
        have : (((10 : UInt8).toNat : Int) != 10) = false := rfl
        rw [this]
        simp
      · have : ((c.toNat : Int) != 10) = true := by
          have : c.toNat ≠ 10 := fun e => h10 (UInt8.toNat_inj.1 e)
          simp; omega
        rw [this, if_neg h10]
        simp only [cond_true, Option.bind_some, Sum.elim_inl]
        rw [to_loop l hb M (k + 1) (by omega) (by omega)]
        simp only [List.length_cons]
        congr 1
        omega
    · have hkl : k = l.length := by omega
      subst hkl
      have e1 : decide ((l.length : Int) < ((ba l).size : Int)) = false := decide_eq_false (by rw [size_ba]; omega)
      rw [e1, List.drop_length]
      rfl
theorem rparse_loop (N : Nat) (hN : 100100 < N) (l : L8) (hb : l.length < 100000) : ∀ (M k n : Nat) (acc : List Event), l.length + 1 - k < M → k ≤ l.length + 1 → n + (l.length + 1 - k) < 1000000 → acc.length ≤ 400 →
    ∃ r, whileF M
          (fun (p1 : List Event × Int × Int) =>
            bif decide (p1.snd.snd < ((ba l).size : Int)) then
              (whileF N
                    (fun (p2 : Int) =>
                      (bif decide (p2 < ((ba l).size : Int)) then
                            bif decide ((0 : Int) ≤ p2) && decide (p2 < ((ba l).size : Int)) then
                              some (byteAt (ba l) p2 != (10 : Int))
                            else none
                          else some false).bind
                        fun (r3 : Bool) =>
                        bif r3 then some (Sum.inl (IntKind.i64.wrap (p2 + (1 : Int)))) else some (Sum.inr p2))
                    p1.snd.snd).bind
                fun (r4 : Int) =>
                (bif decide (r4 > p1.snd.snd) then
                      bif decide ((0 : Int) ≤ p1.snd.snd) && decide (p1.snd.snd < ((ba l).size : Int)) then
                        some (byteAt (ba l) p1.snd.snd != (35 : Int))
                      else none
                    else some false).bind
                  fun (r5 : Bool) =>
                  (bif r5 then
                        bif decide (((List.length p1.fst) : Int) ≥ (400 : Int)) then
                          some (Sum.inr ([], IntKind.i64.wrap (p1.snd.fst + (1 : Int)), (4 : Int)))
                        else
                          bif
                              decide ((0 : Int) ≤ p1.snd.snd) &&
                                (decide (p1.snd.snd ≤ r4) && decide (r4 ≤ ((ba l).size : Int))) then
                            (r60_line N ((ba l).extract (Int.toNat p1.snd.snd) r4.toNat)).bind fun (r6 : Event × Int) =>
                              bif r6.snd != (0 : Int) then
                                some (Sum.inr ([], IntKind.i64.wrap (p1.snd.fst + (1 : Int)), r6.snd))
                              else
                                (some [r6.fst]).bind fun (r7 : List Event) =>
                                  bif
                                      decide
                                        ((List.length p1.fst + r7.length) * (32 : Nat) ≤ (140737488355328 : Nat)) then
                                    (some (p1.fst ++ r7)).bind fun (r8 : List Event) => some (Sum.inl r8)
                                  else none
                          else none
                      else some (Sum.inl p1.fst)).bind
                    fun (r9 : List Event ⊕ List Event × Int × Int) =>
                    Sum.elim
                      (fun (p10 : List Event) =>
                        some
                          (Sum.inl (p10, IntKind.i64.wrap (p1.snd.fst + (1 : Int)), IntKind.i64.wrap (r4 + (1 : Int)))))
                      (fun (p11 : List Event × Int × Int) => some (Sum.inr (Sum.inr p11))) r9
            else some (Sum.inr (Sum.inl p1.fst))) (acc, (n : Int), (k : Int)) = some r ∧
      Sum.elim (fun (p13 : List Event) => some (p13, (0 : Int), (0 : Int)))
        (fun (p14 : List Event × Int × Int) => some p14) r = some (goS (linesS (l.drop k)) (n + 1) acc)
  | 0, k, n, acc, h, _, _, _ => by omega
  | M + 1, k, n, acc, hM, hk, hn, hacc => by
    rw [whileF_succ]
    dsimp only
    by_cases hlt : k < l.length
    · have e1 : decide ((k : Int) < ((ba l).size : Int)) = true := decide_eq_true (by rw [size_ba]; omega)
      have e2 : decide ((0 : Int) ≤ (k : Int)) = true := decide_eq_true (by omega)
      rw [to_loop l hb N k (by omega) (by omega)]
      have hne : l.drop k ≠ [] := by
        intro h
        have := congrArg List.length h
        simp at this; omega
      have hdrop : l.drop k = l.getD k 0 :: l.drop (k + 1) := by
        rw [List.drop_eq_getElem_cons hlt]; simp [List.getD, List.getElem?_eq_getElem hlt]
      obtain ⟨hl1, hl2⟩ := cut_len 10 (l.drop k)
      have hll : (l.drop k).length = l.length - k := by simp
      -- what the cut gives
      have ha : (ba l).extract k (k + (cutB 10 (l.drop k)).1.length) = ba (cutB 10 (l.drop k)).1 := by
        rw [ba_extract, show k + (cutB 10 (l.drop k)).1.length - k = (cutB 10 (l.drop k)).1.length by omega]
        congr 1
        cases hf : (cutB 10 (l.drop k)).2.2 with
        | true => exact (congrArg (List.take _) (cut_some hf).1).trans (by simp)
        | false => rw [(cut_none hf).1]; exact List.take_length
      have hrest : l.drop (k + (cutB 10 (l.drop k)).1.length + 1) = (cutB 10 (l.drop k)).2.1 := by
        rw [show k + (cutB 10 (l.drop k)).1.length + 1 = k + ((cutB 10 (l.drop k)).1.length + 1) by omega, ← List.drop_drop]
        cases hf : (cutB 10 (l.drop k)).2.2 with
        | true => exact (congrArg (List.drop _) (cut_some hf).1).trans (by simp [List.drop_append])
        | false =>
          obtain ⟨g1, g2, _⟩ := cut_none hf
          rw [g1, g2]
          exact List.drop_of_length_le (by omega)
      have hhead : (cutB 10 (l.drop k)).1 ≠ [] → (cutB 10 (l.drop k)).1.head? = some (l.getD k 0) := fun h => by
        rw [hdrop] at h ⊢
        unfold cutB at h ⊢
        by_cases hb10 : l.getD k 0 = 10
        · rw [if_pos hb10] at h; exact absurd rfl h
        · rw [if_neg hb10]; rfl
      rw [linesS_cut _ hne]
      simp only [e1, e2, cond_true, Option.bind_some]
      generalize hA : (cutB 10 (l.drop k)).1 = a at *
      generalize hR : (cutB 10 (l.drop k)).2.1 = rest at *
      have hgo : goS (a :: linesS rest) (n + 1) acc = if skipL a then goS (linesS rest) (n + 1 + 1) acc else if 400 ≤ acc.length then ([], ((n + 1 : Nat) : Int), 4) else
          match readS a with
          | .inl e => goS (linesS rest) (n + 1 + 1) (acc ++ [e])
          | .inr e => ([], ((n + 1 : Nat) : Int), e) := by
        rw [goS]
        all_goals (cases readS a <;> rfl)
      rw [hgo]
      have hgt : (bif decide (((k + a.length : Nat) : Int) > (k : Int)) then
                      bif true && true then
                        some (byteAt (ba l) (k : Int) != (35 : Int))
                      else none
                    else some false) = some (!skipL a) := by
        cases a with
        | nil =>
          have : decide (((k + ([] : L8).length : Nat) : Int) > (k : Int)) = false := decide_eq_false (by simp)
          rw [this]; rfl
        | cons c r =>
          have : decide (((k + (c :: r).length : Nat) : Int) > (k : Int)) = true := decide_eq_true (by simp; omega)
          rw [this, byteAt_ba]
          have hh := hhead (by simp)
          simp only [List.head?_cons, Option.some.injEq] at hh
          rw [← hh]
          unfold skipL
          simp only [Bool.and_self, cond_true, List.isEmpty_cons, Bool.false_or, List.head?_cons]
          congr 1
          by_cases hc : c = 35
          · subst hc; rfl
          · have h2 : ((c.toNat : Int) != 35) = true := by
              have : c.toNat ≠ 35 := fun e => hc (UInt8.toNat_inj.1 e)
              simp; omega
            rw [h2]
            simp [hc]
      rw [hgt]
      simp only [Option.bind_some]
      have hnext : IntKind.i64.wrap (((k + a.length : Nat) : Int) + 1) = ((k + a.length + 1 : Nat) : Int) := wrapC (by omega)
      have hnn : IntKind.i64.wrap ((n : Int) + 1) = ((n + 1 : Nat) : Int) := wrapC (by omega)
      cases hs : skipL a with
      | true =>
        simp only [Bool.not_true, cond_false, Option.bind_some, Sum.elim_inl, if_true]
        rw [hnext, hnn]
        have ih := rparse_loop N hN l hb M (k + a.length + 1) (n + 1) acc (by omega) (by omega) (by omega) hacc
        rw [hrest] at ih
        simp only [Option.bind_some] at ih
        exact ih
      | false =>
        simp only [Bool.not_false, cond_true, Bool.false_eq_true, if_false]
        by_cases h4 : 400 ≤ acc.length
        · have e4 : ((acc.length : Int) ≥ 400) = True := eq_true (by omega)
          simp only [e4, decide_true, cond_true, Option.bind_some, Sum.elim_inr, hnn]
          exact ⟨_, rfl, by rw [if_pos h4]; rfl⟩
        · have e4 : ((acc.length : Int) ≥ 400) = False := eq_false (by omega)
          have e5 : decide ((k : Int) ≤ ((k + a.length : Nat) : Int)) = true := decide_eq_true (by omega)
          have e6 : decide (((k + a.length : Nat) : Int) ≤ ((ba l).size : Int)) = true := decide_eq_true (by rw [size_ba]; omega)
          simp only [e4, e5, e6, decide_false, cond_false, Bool.and_self, cond_true, Int.toNat_natCast]
          rw [if_neg h4, ha, r60_line_eq N a (by omega) (by omega)]
          simp only [Option.bind_some]
          cases hr : readS a with
          | inr e =>
            have hne0 : (e != 0) = true := by
              unfold readS at hr
              split at hr
              · cases hr; rfl
              · split at hr
                · cases hr; rfl
                · split at hr
                  · split at hr
                    · split at hr
                      · cases hr
                      · cases hr; rfl
                    · cases hr; rfl
                  · cases hr; rfl
            simp only [hne0, cond_true, Option.bind_some, Sum.elim_inr, hnn]
            exact ⟨_, rfl, rfl⟩
          | inl e =>
            have hcap : (acc.length + [e].length) * 32 ≤ 140737488355328 := by simp; omega
            have h00 : (((0 : Int)) != 0) = false := rfl
            simp only [h00, cond_false, decide_eq_true hcap, cond_true, Option.bind_some, Sum.elim_inl]
            rw [hnext, hnn]
            have ih := rparse_loop N hN l hb M (k + a.length + 1) (n + 1) (acc ++ [e]) (by omega) (by omega) (by omega) (by simp; omega)
            rw [hrest] at ih
            simp only [Option.bind_some] at ih
            exact ih
    · have e1 : decide ((k : Int) < ((ba l).size : Int)) = false := decide_eq_false (by rw [size_ba]; omega)
      rw [e1, List.drop_of_length_le (by omega)]
      exact ⟨_, rfl, rfl⟩
theorem r60_Parse_eq (N : Nat) (l : L8) (hN : 100100 < N) (hb : l.length < 100000) : r60_Parse N (ba l) = some (parseS l) := by
  unfold r60_Parse parseS
  rw [size_ba]
  by_cases h : 20000 < l.length
  · have e1 : decide ((l.length : Int) > 20000) = true := decide_eq_true (by omega)
    rw [e1, if_pos h]
    rfl
  · have e1 : decide ((l.length : Int) > 20000) = false := decide_eq_false (by omega)
    rw [e1, if_neg h]
    obtain ⟨r, h1, h2⟩ := rparse_loop N hN l hb N 0 0 [] (by omega) (by omega) (by omega) (by simp)
    have h1' : whileF N _ (([] : List Event), (0 : Int), (0 : Int)) = some r := h1
    rw [size_ba] at h1'
    rw [cond_false, h1']
    exact h2
end Go.Proofs.YtibcoiabdnbdjaaDoor

/- Script, plain: numbers in decimal, Reply, and the reference's. No condition. -/
namespace Go.Proofs.YtibcoiabdnbdjaaDoor
open Go.Cm Go.Proofs
set_option linter.unusedVariables false
def toI (l : L8) : List Int := l.map fun b => (b.toNat : Int)
theorem strU_ba (l : L8) : strU (ba l) = toI l := rfl
theorem byU_toI (l : L8) : byU (toI l) = ba l := by
  have : (toI l).map (fun x : Int => x.toNat.toUInt8) = l := by
    unfold toI
    induction l with
    | nil => rfl
    | cons b l ih => simp [ih]
  exact congrArg (fun l : L8 => (⟨l.toArray⟩ : ByteArray)) this
theorem toI_append (a b : L8) : toI a ++ toI b = toI (a ++ b) := by simp [toI]
theorem toI_len (a : L8) : (toI a).length = a.length := by simp [toI]
theorem decDigits_lt {u : Nat} (h : u < 10) : Lib.decDigits u = [UInt8.ofNat (48 + u)] := by rw [Lib.decDigits, dif_pos h]
theorem decDigits_ge {u : Nat} (h : ¬ u < 10) : Lib.decDigits u = Lib.decDigits (u / 10) ++ [UInt8.ofNat (48 + u % 10)] := by rw [Lib.decDigits, dif_neg h]
theorem decDigits_len : ∀ (k u : Nat), u < 10 ^ (k + 1) → (Lib.decDigits u).length ≤ k + 1
  | 0, u, h => by
    rw [decDigits_lt (by simpa using h)]; simp
  | k + 1, u, h => by
    by_cases hu : u < 10
    · rw [decDigits_lt hu]; simp
    · rw [decDigits_ge hu]
      have : u / 10 < 10 ^ (k + 1) := by rw [Nat.pow_succ] at h; omega
      have := decDigits_len k (u / 10) this
      simp; omega
theorem itoa_len (z : Int) (h1 : -9223372036854775808 ≤ z) (h2 : z ≤ 9223372036854775807) : (Lib.itoa z).length ≤ 20 := by
  unfold Lib.itoa
  split
  · have := decDigits_len 18 z.natAbs (by omega)
    simp; omega
  · have := decDigits_len 18 z.toNat (by omega)
    omega
theorem digits_k_eq (N : Nat) : ∀ (k : Nat) (z : Nat), 1 ≤ k → z < 10 ^ k → z < 9223372036854775809 → r60_digits_k N k (z : Int) = some (ba (Lib.decDigits z))
  | 0, z, h1, h, hz => by omega
  | k + 1, z, h1, h, hz => by
    show r60_digits_b (r60_digits_k N k) N (z : Int) = _
    unfold r60_digits_b
    by_cases h10 : z < 10
    · rw [decide_eq_true (show (z : Int) < 10 by omega), decDigits_lt h10]
      simp only [cond_true, Option.bind_some]
      rw [wrap64 (by omega) (by omega)]
      have : IntKind.u8.wrap (48 + (z : Int)) = ((UInt8.ofNat (48 + z)).toNat : Int) := by
        show (48 + (z : Int)) % (2 ^ 8 : Int) = _
        rw [UInt8.toNat_ofNat']
        omega
      rw [this]
      exact congrArg some (byU_toI [UInt8.ofNat (48 + z)])
    · rw [decide_eq_false (show ¬ (z : Int) < 10 by omega), decDigits_ge h10]
      simp only [cond_false]
      have e1 : (z : Int).tdiv 10 = ((z / 10 : Nat) : Int) := by
        rw [Int.tdiv_eq_ediv_of_nonneg (by omega)]; omega
      have e2 : (z : Int).tmod 10 = ((z % 10 : Nat) : Int) := by
        rw [Int.tmod_eq_emod_of_nonneg (by omega)]; omega
      have hk : 1 ≤ k := by
        cases k with
        | zero => simp at h; omega
        | succ k => omega
      have h10k : 10 ≤ 10 ^ k := by
        calc 10 = 10 ^ 1 := rfl
          _ ≤ 10 ^ k := Nat.pow_le_pow_right (by omega) hk
      rw [e1, e2, wrap64 (by omega) (by omega), digits_k_eq N k (z / 10) hk (by rw [Nat.pow_succ] at h; omega) (by omega), digits_k_eq N k (z % 10) hk (by omega) (by omega)]
      simp only [Option.bind_some]
      have hl1 := decDigits_len 19 (z / 10) (by omega)
      rw [decDigits_lt (show z % 10 < 10 by omega)]
      have : (ba (Lib.decDigits (z / 10))).size + (ba [UInt8.ofNat (48 + z % 10)]).size ≤ 9223372036854775807 := by
        rw [size_ba, size_ba]; simp; omega
      rw [decide_eq_true this, ba_append]
      rfl
theorem digits_eq (N : Nat) (hN : 19 ≤ N) (z : Nat) (hz : z < 9223372036854775809) : r60_digits N (z : Int) = some (ba (Lib.decDigits z)) := by
  refine digits_k_eq N N z (by omega) ?_ hz
  have : 10 ^ 19 ≤ 10 ^ N := Nat.pow_le_pow_right (by omega) hN
  have h2 : (9223372036854775809 : Nat) ≤ 10 ^ 19 := by decide
  omega
theorem Number_eq (N : Nat) (hN : 19 ≤ N) (z : Int) (h1 : -9223372036854775808 ≤ z) (h2 : z ≤ 9223372036854775807) : r60_Number N z = some (ba (Lib.itoa z)) := by
  unfold r60_Number Lib.itoa
  by_cases h0 : z ≥ 0
  · rw [decide_eq_true h0, if_neg (by omega)]
    obtain ⟨n, rfl⟩ : ∃ n : Nat, z = n := ⟨z.toNat, by omega⟩
    simp only [cond_true]
    rw [digits_eq N hN n (by omega)]
    rfl
  · rw [decide_eq_false h0, if_pos (by omega)]
    simp only [cond_false]
    obtain ⟨n, rfl⟩ : ∃ n : Nat, z = -(n : Int) := ⟨z.natAbs, by omega⟩
    have hab : (-(n : Int)).natAbs = n := by omega
    rw [hab]
    have hp : ∀ l : L8, bL [45] ++ ba l = ba (45 :: l) := fun l => by rw [bL_ba, ba_append]; rfl
    by_cases h10 : -(n : Int) > -10
    · rw [decide_eq_true h10]
      simp only [cond_true]
      rw [wrap64 (by omega) (by omega), show (0 : Int) - -(n : Int) = (n : Int) by omega, digits_eq N hN n (by omega)]
      simp only [Option.bind_some]
      have hl := decDigits_len 19 n (by omega)
      have : 1 + (ba (Lib.decDigits n)).size ≤ 9223372036854775807 := by rw [size_ba]; omega
      rw [decide_eq_true this, hp]
      rfl
    · rw [decide_eq_false h10]
      simp only [cond_false]
      have e1 : (-(n : Int)).tdiv 10 = -((n / 10 : Nat) : Int) := by
        rw [Int.neg_tdiv, Int.tdiv_eq_ediv_of_nonneg (by omega)]; omega
      have e2 : (-(n : Int)).tmod 10 = -((n % 10 : Nat) : Int) := by
        rw [Int.neg_tmod, Int.tmod_eq_emod_of_nonneg (by omega)]; omega
      rw [e1, e2, wrap64 (z := -((n / 10 : Nat) : Int)) (by omega) (by omega), wrap64 (z := 0 - -((n / 10 : Nat) : Int)) (by omega) (by omega), wrap64 (z := 0 - -((n % 10 : Nat) : Int)) (by omega) (by omega),
        show (0 : Int) - -((n / 10 : Nat) : Int) = ((n / 10 : Nat) : Int) by omega, show (0 : Int) - -((n % 10 : Nat) : Int) = ((n % 10 : Nat) : Int) by omega,
        digits_eq N hN (n / 10) (by omega), digits_eq N hN (n % 10) (by omega)]
      simp only [Option.bind_some]
      have hl := decDigits_len 19 (n / 10) (by omega)
      have hl2 := decDigits_len 19 (n % 10) (by omega)
      have t1 : 1 + (ba (Lib.decDigits (n / 10))).size ≤ 9223372036854775807 := by rw [size_ba]; omega
      rw [decide_eq_true t1, hp]
      have t2 : (ba (45 :: Lib.decDigits (n / 10))).size + (ba (Lib.decDigits (n % 10))).size ≤ 9223372036854775807 := by rw [size_ba, size_ba]; simp; omega
      rw [decide_eq_true t2, ba_append]
      simp only [cond_true]
      rw [decDigits_lt (show n % 10 < 10 by omega), decDigits_ge (u := n) (by omega)]
      rfl
theorem Itoa_eq (N : Nat) (z : Int) (h1 : -9223372036854775808 ≤ z) (h2 : z ≤ 9223372036854775807) : strconv_Itoa N z = some (ba (Lib.itoa z)) := by
  unfold strconv_Itoa
  rw [decide_eq_true h1, decide_eq_true h2]
  rfl
/-! replies -/
def errW : L8 := [101, 114, 114, 111, 114, 32]
def okW : L8 := [111, 107, 32]
def argsW (l : List Int) : L8 := l.flatMap fun z => 32 :: Lib.itoa z
def replyS (x : Reply) : L8 := if x.Err = 0 then okW ++ Lib.itoa x.N ++ argsW x.List else errW ++ Lib.itoa x.Err
def isI (z : Int) : Prop := -9223372036854775808 ≤ z ∧ z ≤ 9223372036854775807
theorem argsW_len (l : List Int) (h : ∀ z, z ∈ l → isI z) : (argsW l).length ≤ 21 * l.length := by
  induction l with
  | nil => simp [argsW]
  | cons z l ih =>
    have h1 := itoa_len z (h z (List.mem_cons_self ..)).1 (h z (List.mem_cons_self ..)).2
    have h2 := ih fun z hz => h z (List.mem_cons_of_mem _ hz)
    unfold argsW at *
    simp only [List.flatMap_cons, List.length_append, List.length_cons]
    omega
theorem argsW_take (l : List Int) (i : Nat) (h : i < l.length) : argsW (l.take (i + 1)) = argsW (l.take i) ++ 32 :: Lib.itoa (l.getD i 0) := by
  unfold argsW
  rw [List.take_succ_eq_append_getElem h, List.flatMap_append, show l.getD i 0 = l[i] by simp [List.getD, List.getElem?_eq_getElem h]]
  simp
theorem take_isI {l : List Int} (h : ∀ z, z ∈ l → isI z) (i : Nat) : ∀ z, z ∈ l.take i → isI z := fun z hz => h z (List.mem_of_mem_take hz)
theorem getD_isI {l : List Int} (h : ∀ z, z ∈ l → isI z) (i : Nat) : isI (l.getD i 0) := by
  by_cases hi : i < l.length
  · rw [show l.getD i 0 = l[i] by simp [List.getD, List.getElem?_eq_getElem hi]]
    exact h _ (List.getElem_mem hi)
  · rw [show l.getD i 0 = 0 by simp [List.getD, List.getElem?_eq_none (by omega : l.length ≤ i)]]
    unfold isI; omega
theorem script_Reply_eq (N : Nat) (x : Reply) (he : isI x.Err) (hn : isI x.N) (hl : ∀ z, z ∈ x.List → isI z) (h100 : x.List.length ≤ 1000000) (hN : x.List.length < N) : script_Reply N x = some (ba (replyS x)) := by
  unfold script_Reply replyS
  by_cases h0 : x.Err = 0
  · have e0 : (x.Err != 0) = false := by simp [h0]
    rw [e0, if_pos h0, Itoa_eq N x.N hn.1 hn.2]
    simp only [cond_false, Option.bind_some]
    have hlen := itoa_len x.N hn.1 hn.2
    have t1 : 3 + (ba (Lib.itoa x.N)).size ≤ 9223372036854775807 := by rw [size_ba]; omega
    rw [decide_eq_true t1]
    have hb : bL [111, 107, 32] ++ ba (Lib.itoa x.N) = ba (okW ++ Lib.itoa x.N) := by rw [bL_ba, ba_append]; rfl
    rw [hb, strU_ba]
    have t2 : (0 + (toI (okW ++ Lib.itoa x.N)).length) * 1 ≤ 140737488355328 := by rw [toI_len]; simp [okW]; omega
    rw [decide_eq_true t2]
    simp only [cond_true, Option.bind_some, List.nil_append]
    rw [bindT (s0 := ((0 : Int), Builder.mk false (toI (okW ++ Lib.itoa x.N)))) (fun i => ((i : Int), Builder.mk false (toI (okW ++ Lib.itoa x.N ++ argsW (x.List.take i))))) (by simp [argsW]) (Builder.mk false (toI (okW ++ Lib.itoa x.N ++ argsW x.List))) x.List.length hN]
    · simp only [decide_true, cond_true]
      rw [byU_toI]
    · intro i hi
      have e1 : decide ((i : Int) < (x.List.length : Int)) = true := decide_eq_true (by omega)
      have e2 : decide ((0 : Int) ≤ (i : Int)) = true := decide_eq_true (by omega)
      have hz := getD_isI hl i
      have hat := argsW_take x.List i hi
      simp only [e1, e2, Bool.and_self, cond_true, Int.toNat_natCast]
      generalize x.List.getD i 0 = z at *
      rw [Itoa_eq N _ hz.1 hz.2]
      have hzl := itoa_len _ hz.1 hz.2
      have hal := argsW_len (x.List.take i) (take_isI hl i)
      have hti : (x.List.take i).length ≤ i := by simp; omega
      simp only [Option.bind_some]
      have t3 : 1 + (ba (Lib.itoa z)).size ≤ 9223372036854775807 := by rw [size_ba]; omega
      have hb2 : bL [32] ++ ba (Lib.itoa z) = ba (32 :: Lib.itoa z) := by rw [bL_ba, ba_append]; rfl
      rw [decide_eq_true t3, hb2, strU_ba]
      have t4 : ((toI (okW ++ Lib.itoa x.N ++ argsW (x.List.take i))).length + (toI (32 :: Lib.itoa z)).length) * 1 ≤ 140737488355328 := by
        rw [toI_len, toI_len]; simp [okW]; omega
      rw [decide_eq_true t4, wrapC (by omega), toI_append, hat, List.append_assoc]
      rfl
    · have e1 : decide ((x.List.length : Int) < (x.List.length : Int)) = false := decide_eq_false (by omega)
      simp only [e1, cond_false, List.take_length]
  · have e0 : (x.Err != 0) = true := by simp [h0]
    rw [e0, if_neg h0, Itoa_eq N x.Err he.1 he.2]
    simp only [cond_true, Option.bind_some]
    have hlen := itoa_len x.Err he.1 he.2
    have t1 : 6 + (ba (Lib.itoa x.Err)).size ≤ 9223372036854775807 := by rw [size_ba]; omega
    rw [decide_eq_true t1, bL_ba, ba_append]
    rfl
theorem r60_Reply_eq (N : Nat) (x : Reply) (he : isI x.Err) (hn : isI x.N) (hl : ∀ z, z ∈ x.List → isI z) (h100 : x.List.length ≤ 1000000) (hN : x.List.length < N) (h19 : 19 ≤ N) : r60_Reply N x = some (ba (replyS x)) := by
  unfold r60_Reply replyS
  by_cases h0 : x.Err = 0
  · have e0 : (x.Err != 0) = false := by simp [h0]
    rw [e0, if_pos h0, Number_eq N h19 x.N hn.1 hn.2]
    simp only [cond_false, Option.bind_some]
    have hlen := itoa_len x.N hn.1 hn.2
    have t1 : 3 + (ba (Lib.itoa x.N)).size ≤ 9223372036854775807 := by rw [size_ba]; omega
    rw [decide_eq_true t1]
    have hb : bL [111, 107, 32] ++ ba (Lib.itoa x.N) = ba (okW ++ Lib.itoa x.N) := by rw [bL_ba, ba_append]; rfl
    rw [hb]
    simp only [cond_true]
    rw [bindT (s0 := (ba (okW ++ Lib.itoa x.N), (0 : Int))) (fun i => (ba (okW ++ Lib.itoa x.N ++ argsW (x.List.take i)), (i : Int))) (by simp [argsW]) (ba (okW ++ Lib.itoa x.N ++ argsW x.List)) x.List.length hN]
    · intro i hi
      have e1 : decide ((i : Int) < (x.List.length : Int)) = true := decide_eq_true (by omega)
      have e2 : decide ((0 : Int) ≤ (i : Int)) = true := decide_eq_true (by omega)
      have hz := getD_isI hl i
      have hat := argsW_take x.List i hi
      have hzl := itoa_len _ hz.1 hz.2
      have hal := argsW_len (x.List.take i) (take_isI hl i)
      have hti : (x.List.take i).length ≤ i := by simp; omega
      have t3 : (ba (okW ++ Lib.itoa x.N ++ argsW (x.List.take i))).size + 1 ≤ 9223372036854775807 := by rw [size_ba]; simp [okW]; omega
      simp only [e1, e2, Bool.and_self, cond_true, Int.toNat_natCast, decide_eq_true t3]
      generalize x.List.getD i 0 = z at *
      rw [Number_eq N h19 _ hz.1 hz.2]
      simp only [Option.bind_some]
      have hb2 : ba (okW ++ Lib.itoa x.N ++ argsW (x.List.take i)) ++ bL [32] = ba (okW ++ Lib.itoa x.N ++ argsW (x.List.take i) ++ [32]) := by rw [bL_ba, ba_append]; rfl
      rw [hb2]
      have t4 : (ba (okW ++ Lib.itoa x.N ++ argsW (x.List.take i) ++ [32])).size + (ba (Lib.itoa z)).size ≤ 9223372036854775807 := by
        rw [size_ba, size_ba]; simp [okW]; omega
      rw [decide_eq_true t4, wrapC (by omega), ba_append, hat]
      simp only [cond_true, List.append_assoc, List.singleton_append]
    · have e1 : decide ((x.List.length : Int) < (x.List.length : Int)) = false := decide_eq_false (by omega)
      simp only [e1, cond_false, List.take_length]
  · have e0 : (x.Err != 0) = true := by simp [h0]
    rw [e0, if_neg h0, Number_eq N h19 x.Err he.1 he.2]
    simp only [cond_true, Option.bind_some]
    have hlen := itoa_len x.Err he.1 he.2
    have t1 : 6 + (ba (Lib.itoa x.Err)).size ≤ 9223372036854775807 := by rw [size_ba]; omega
    rw [decide_eq_true t1, bL_ba, ba_append]
    rfl
end Go.Proofs.YtibcoiabdnbdjaaDoor

/- Script, plain: equality of events; the examples; ScriptParses and ScriptReplies. No condition. -/
namespace Go.Proofs.YtibcoiabdnbdjaaDoor
open Go.Cm Go.Proofs
set_option linter.unusedVariables false
set_option maxRecDepth 100000
theorem bneI (z : Int) : (z != z) = false := by simp
theorem same_refl (N : Nat) (a : List Event) (ha : a.length < N) (hb : a.length < 1000000) (hargs : ∀ e, e ∈ a → e.Args.length < N ∧ e.Args.length < 1000000) : r60_Same N a a = some true := by
  unfold r60_Same
  rw [bneI, cond_false]
  rw [bindT (s0 := (0 : Int)) (fun i => (i : Int)) rfl (Sum.inl ()) a.length ha]
  · rfl
  · intro i hi
    have e1 : decide ((i : Int) < (a.length : Int)) = true := decide_eq_true (by omega)
    have e2 : decide ((0 : Int) ≤ (i : Int)) = true := decide_eq_true (by omega)
    have he : a.getD i z_Event ∈ a := by
      rw [show a.getD i z_Event = a[i] by simp [List.getD, List.getElem?_eq_getElem hi]]
      exact List.getElem_mem hi
    obtain ⟨h1, h2⟩ := hargs _ he
    obtain ⟨e, hE⟩ : ∃ e, a.getD i z_Event = e := ⟨_, rfl⟩
    rw [hE] at h1 h2
    simp only [e1, e2, Bool.and_self, cond_true, Int.toNat_natCast, bneI, cond_false, Option.bind_some, hE]
    rw [bindT (s0 := (0 : Int)) (fun i => (i : Int)) rfl (Sum.inl ()) e.Args.length h1]
    · simp only [Sum.elim_inl]
      rw [wrapC (by omega)]
    · intro j hj
      have e3 : decide ((j : Int) < (e.Args.length : Int)) = true := decide_eq_true (by omega)
      have e4 : decide ((0 : Int) ≤ (j : Int)) = true := decide_eq_true (by omega)
      simp only [e3, e4, Bool.and_self, cond_true, Int.toNat_natCast, bneI, cond_false]
      rw [wrapC (by omega)]
    · have e3 : decide ((e.Args.length : Int) < (e.Args.length : Int)) = false := decide_eq_false (by omega)
      simp only [e3, cond_false]
  · have e1 : decide ((a.length : Int) < (a.length : Int)) = false := decide_eq_false (by omega)
    simp only [e1, cond_false]
/-- events that Parse returns are few, and have not many arguments -/
theorem readS_args {l : L8} {e : Event} (h : readS l = .inl e) : e.Args.length ≤ l.length := by
  have hl := (pieces_len (c := 32) l).1
  unfold readS at h
  split at h
  · cases h
  · rename_i w ps hp
    rw [hp] at hl
    split at h
    · cases h
    · split at h
      · split at h
        · split at h
          · injection h with h
            subst h
            simp only [List.length_cons] at hl
            simp; omega
          · cases h
        · cases h
      · cases h
theorem goS_small : ∀ (ls : List L8) (n : Nat) (acc : List Event) (m : Nat), (∀ a, a ∈ ls → a.length ≤ m) → acc.length ≤ 400 → (∀ e, e ∈ acc → e.Args.length ≤ m) →
    (goS ls n acc).1.length ≤ 400 ∧ ∀ e, e ∈ (goS ls n acc).1 → e.Args.length ≤ m
  | [], n, acc, m, _, h1, h2 => ⟨h1, h2⟩
  | a :: ls, n, acc, m, h0, h1, h2 => by
    have h0' : ∀ b, b ∈ ls → b.length ≤ m := fun b hb => h0 b (List.mem_cons_of_mem _ hb)
    rw [goS]
    split
    · exact goS_small ls (n + 1) acc m h0' h1 h2
    · split
      · exact ⟨by simp, fun e he => by simp at he⟩
      · rename_i h4
        split
        · rename_i e he
          refine goS_small ls (n + 1) (acc ++ [e]) m h0' (by simp; omega) fun x hx => ?_
          rcases List.mem_append.1 hx with hx | hx
          · exact h2 x hx
          · have : x = e := by simpa using hx
            subst this
            exact Nat.le_trans (readS_args he) (h0 a (List.mem_cons_self ..))
        · exact ⟨by simp, fun e he => by simp at he⟩
theorem parseS_small (l : L8) (hb : l.length < 100000) : (parseS l).1.length ≤ 400 ∧ ∀ e, e ∈ (parseS l).1 → e.Args.length ≤ 100000 := by
  unfold parseS
  split
  · exact ⟨by simp, fun e he => by simp at he⟩
  · exact goS_small _ _ _ _ (fun a ha => by have := (linesS_len l).2 a ha; omega) (by simp) (fun e he => by simp at he)
theorem same_parse (N : Nat) (hN : 100100 < N) (l : L8) (hb : l.length < 100000) : r60_Same N (parseS l).1 (parseS l).1 = some true := by
  obtain ⟨h1, h2⟩ := parseS_small l hb
  exact same_refl N _ (by omega) (by omega) fun e he => by have := h2 e he; omega
theorem alive_eq (N : Nat) (hN : 100100 < N) : l60_alive N = some true := by
  unfold l60_alive
  have p (l : List Nat) (h : l.length < 100000) : script_Parse N (bL l) = some (parseS (l.map UInt8.ofNat)) := by
    rw [bL_ba]
    exact script_Parse_eq N _ hN (by simpa using h)
  have q1 : parseS ([116, 105, 99, 107, 32, 54, 48, 10, 35, 32, 120, 10, 112, 97, 115, 115, 32, 53, 32, 49, 10].map UInt8.ofNat) = ([⟨1, [60]⟩, ⟨5, [5, 1]⟩], 0, 0) := by kernel_rfl
  have q2 : parseS ([116, 105, 99, 107, 32, 48, 54, 48].map UInt8.ofNat) = ([], 1, 3) := by kernel_rfl
  have q3 : parseS ([116, 105, 99, 107].map UInt8.ofNat) = ([], 1, 3) := by kernel_rfl
  have q4 : parseS ([116, 111, 99, 107, 32, 49].map UInt8.ofNat) = ([], 1, 18) := by kernel_rfl
  have q5 : parseS ([10, 116, 105, 99, 107, 32, 32, 49].map UInt8.ofNat) = ([], 2, 3) := by kernel_rfl
  rw [p _ (by decide), p _ (by decide), p _ (by decide), p _ (by decide), p _ (by decide), q1, q2, q3, q4, q5]
  have hs := same_refl N [⟨1, [60]⟩, ⟨5, [5, 1]⟩] (by simp; omega) (by simp) (fun e he => by
    rcases List.mem_cons.1 he with rfl | he
    · simp; omega
    · have : e = ⟨5, [5, 1]⟩ := by simpa using he
      subst this; simp; omega)
  have r1 := script_Reply_eq N ⟨10, 0, []⟩ (by unfold isI; simp) (by unfold isI; simp) (fun z hz => by simp at hz) (by simp) (by simp; omega)
  have r2 := script_Reply_eq N ⟨0, 3, [1, 2]⟩ (by unfold isI; simp) (by unfold isI; simp) (fun z hz => by simp at hz; unfold isI; omega) (by simp) (by simp; omega)
  have i1 : Lib.itoa 10 = [49, 48] := by
    unfold Lib.itoa
    rw [if_neg (by decide), show (10 : Int).toNat = 10 from rfl, decDigits_ge (by decide), decDigits_lt (by decide)]
    rfl
  have i2 : Lib.itoa 3 = [51] := by
    unfold Lib.itoa
    rw [if_neg (by decide), show (3 : Int).toNat = 3 from rfl, decDigits_lt (by decide)]
    rfl
  have i3 : Lib.itoa 1 = [49] := by
    unfold Lib.itoa
    rw [if_neg (by decide), show (1 : Int).toNat = 1 from rfl, decDigits_lt (by decide)]
    rfl
  have i4 : Lib.itoa 2 = [50] := by
    unfold Lib.itoa
    rw [if_neg (by decide), show (2 : Int).toNat = 2 from rfl, decDigits_lt (by decide)]
    rfl
  have s1 : replyS ⟨10, 0, []⟩ = [101, 114, 114, 111, 114, 32, 49, 48] := by
    unfold replyS
    rw [if_neg (by decide), i1]; rfl
  have s2 : replyS ⟨0, 3, [1, 2]⟩ = [111, 107, 32, 51, 32, 49, 32, 50] := by
    unfold replyS
    rw [if_pos rfl, i2, show argsW [1, 2] = 32 :: Lib.itoa 1 ++ (32 :: Lib.itoa 2 ++ []) from rfl, i3, i4]; rfl
  rw [s1] at r1
  rw [s2] at r2
  simp only [Option.bind_some, hs, r1, r2, toList_ba]
  rfl
end Go.Proofs.YtibcoiabdnbdjaaDoor

/- Script, plain: ScriptParses and ScriptReplies. No condition. -/
namespace Go.Proofs.YtibcoiabdnbdjaaDoor
open Go.Cm Go.Proofs
set_option linter.unusedVariables false
theorem wf64 {z : Int} (h : WfT (.lit (.int .i64 z) : Tree)) : isI z := by
  have := h.inv_int
  simp only [Lit.wf, IntKind.min, IntKind.max, IntKind.signed, IntKind.bits] at this
  unfold isI
  simp at this
  omega
theorem wfInts {l : List Int} (h : WfT (.sl ⟨TI.t_i64, l⟩ : Tree)) : ∀ z, z ∈ l → isI z := fun z hz => wf64 ((h.inv_sl.2 z hz) _ (List.mem_cons_self ..))
theorem t_ScriptParses : AllW (fun y => y = some true) [.t_str] (l60_ScriptParses 1000000) := by
  intro x _
  show l60_ScriptParses 1000000 (ba (tl x)) = some true
  generalize tl x = l
  unfold l60_ScriptParses
  rw [alive_eq _ (by omega)]
  simp only [Option.bind_some, Bool.not_true, cond_false]
  by_cases h : 21000 < l.length
  · have e1 : decide (((ba l).size : Int) > 21000) = true := decide_eq_true (by rw [size_ba]; omega)
    rw [e1]; rfl
  · have e1 : decide (((ba l).size : Int) > 21000) = false := decide_eq_false (by rw [size_ba]; omega)
    rw [e1, script_Parse_eq _ l (by omega) (by omega), r60_Parse_eq _ l (by omega) (by omega)]
    simp only [Option.bind_some, cond_false, beq_self_eq_true, cond_true]
    rw [same_parse _ (by omega) l (by omega)]
    rfl
theorem t_ScriptReplies : AllW (fun y => y = some true) [.t_Reply] (l60_ScriptReplies 1000000) := by
  intro x hx
  have hx0 : WfT (.lit (.int .i64 x.Err) : Tree) := hx _ (List.mem_cons_self ..)
  have hx1 : WfT (.lit (.int .i64 x.N) : Tree) := hx _ (List.mem_cons_of_mem _ (List.mem_cons_self ..))
  have hx2 : WfT (.sl ⟨TI.t_i64, x.List⟩ : Tree) := hx _ (List.mem_cons_of_mem _ (List.mem_cons_of_mem _ (List.mem_cons_self ..)))
  show l60_ScriptReplies 1000000 x = some true
  unfold l60_ScriptReplies
  rw [alive_eq _ (by omega)]
  simp only [Option.bind_some, Bool.not_true, cond_false]
  by_cases h : 100 < x.List.length
  · have e1 : decide ((x.List.length : Int) > 100) = true := decide_eq_true (by omega)
    rw [e1]; rfl
  · have e1 : decide ((x.List.length : Int) > 100) = false := decide_eq_false (by omega)
    rw [e1, script_Reply_eq _ x (wf64 hx0) (wf64 hx1) (wfInts hx2) (by omega) (by omega), r60_Reply_eq _ x (wf64 hx0) (wf64 hx1) (wfInts hx2) (by omega) (by omega) (by omega)]
    simp
end Go.Proofs.YtibcoiabdnbdjaaDoor

