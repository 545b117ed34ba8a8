/- The abstract machine, third state, part 6: rows: freezing, trees of values, stores into rows, new rows. No condition. -/
import Derived.Test.YtibcoiabdnbdjaaDoorCm5
import Derived.Deep.AppendSrc
namespace Go.Cm
open Go.RowKit
set_option linter.unusedSectionVars false
variable [Sig]

/-- one element of a row is set -/
def RowOf.put (q : Row) (i : Nat) (cs : List Tree) : Row := ⟨q.e, q.l.set i (Sig.dec q.e cs)⟩
theorem RowOf.put_n (q : Row) (i : Nat) (cs : List Tree) : (q.put i cs).n = q.n := by simp [RowOf.put, RowOf.n]
theorem RowOf.put_sz (q : Row) (i : Nat) (cs : List Tree) : (q.put i cs).sz = q.sz := rfl
theorem RowOf.put_g (q : Row) {i : Nat} {cs : List Tree} (hf : fits (Sig.shp q.e) cs = true) (hi : i < q.n) (j : Nat) : (q.put i cs).g j = if j = i then cs else q.g j := by
  simp only [RowOf.put, RowOf.g, RowOf.n] at *
  by_cases h : j = i
  · subst h
    rw [if_pos rfl]
    simp only [List.getD, List.getElem?_set, hi, if_true]
    exact Sig.enc_dec _ _ hf
  · rw [if_neg h]
    simp only [List.getD, List.getElem?_set, if_neg (Ne.symm h)]

theorem frz_repT {w : World} {ρ : Env} {bx : Nat → Box} {k e : Nat} {q : Row} (h : SimBox w ρ bx k (.frz e q)) : RepT w (okS ρ bx) (ρ.hd k) (.sl q) := by
  obtain ⟨xs, hown, hrr, hb⟩ := h
  obtain ⟨hl, hown⟩ := hown
  rcases hown with ⟨a, e1, e2⟩ | ⟨g, cap, cur, e1, hF, hh, hcap, hmax, hcs, htk⟩
  · rw [e1]
    exact .sl a 0 0 q (fun _ _ => undef) e2 (Nat.le_refl _) (Nat.zero_le _) (fun i j h => by omega) (fun i j h => by omega) (fun i j t h => by omega)
  · have hm := (hb g (by rw [e1]; rfl)).2
    rw [e1]
    have hget : ∀ i j, i < q.n → j < q.sz → xs[i * q.sz + j]? = some (xs.getD (i * q.sz + j) undef) := fun i j h1 h2 => by
      have h3 : (i + 1) * q.sz ≤ q.n * q.sz := Nat.mul_le_mul_right _ h1
      have h4 : (i + 1) * q.sz = i * q.sz + q.sz := by rw [Nat.add_mul]; omega
      have : i * q.sz + j < xs.length := by omega
      simp [List.getD, List.getElem?_eq_getElem this]
    refine .sl (some ⟨g, 0, none⟩) q.n (cap + 1) q (fun i j => xs.getD (i * q.sz + j) undef) rfl hcap hmax (fun i j h1 h2 => hrr.one _ (List.mem_of_getElem? (hget i j h1 h2))) (fun i j h1 h2 => ?_) (fun i j t h1 h2 => ?_)
    · exact ⟨⟨g, 0, none⟩, rfl, rfl, ⟨hm, hF⟩, by rw [Nat.zero_add]; exact cells_take hh htk (hget i j h1 h2)⟩
    · have hj : j < q.sz := by rw [← q.g_len i]; exact (List.getElem?_eq_some_iff.1 h2).1
      exact hrr.rep i j t _ h1 h2 (hget i j h1 hj)

/-! freezing several rows -/
def frzE (bx : Bxs) : List Nat → List (Nat × Box)
  | [] => []
  | k :: ks => match bget bx k with
    | .row _ e q => (k, .frz e q) :: frzE bx ks
    | _ => frzE bx ks
def nodupB : List Nat → Bool
  | [] => true
  | k :: ks => !ks.contains k && nodupB ks
theorem appE_other : ∀ (e : List (Nat × Box)) (bx : Nat → Box) (k : Nat), (∀ b, (k, b) ∉ e) → appE bx e k = bx k
  | [], _, _, _ => rfl
  | (j, b) :: e, bx, k, h => by
    simp only [appE]
    rw [appE_other e _ k (fun b' hb => h b' (List.mem_cons_of_mem _ hb)), bget_setBox, if_neg]
    intro he
    subst he
    exact h b (List.mem_cons_self ..)
theorem appE_append : ∀ (e e' : List (Nat × Box)) (bx : Nat → Box), appE bx (e ++ e') = appE (appE bx e) e'
  | [], _, _ => rfl
  | (j, b) :: e, e', bx => by simp only [List.cons_append, appE]; exact appE_append e e' _
theorem frzE_keys {bx : Bxs} : ∀ {ks : List Nat} {k : Nat} {b : Box}, (k, b) ∈ frzE bx ks → k ∈ ks
  | [], _, _, h => by simp [frzE] at h
  | j :: ks, k, b, h => by
    unfold frzE at h
    split at h
    · rcases List.mem_cons.1 h with h | h
      · injection h with h1; subst h1; exact List.mem_cons_self ..
      · exact List.mem_cons_of_mem _ (frzE_keys h)
    · exact List.mem_cons_of_mem _ (frzE_keys h)

/-- what is readable as a row is frozen -/
def Frz (bx : Bxs) (ks : List Nat) (bx2 : Nat → Box) : Prop := ∀ k, k ∈ ks → ∀ q, rowOf (bget bx k) = some q → ∃ e, bx2 k = .frz e q
theorem SimB.frzs {bx : Bxs} {w : World} {ρ : Env} : ∀ (ks : List Nat) (bx' : Nat → Box), SimB w ρ bx' → (∀ k, k ∈ ks → bx' k = bget bx k) → nodupB ks = true →
    Ext w ρ bx' w ρ (appE bx' (frzE bx ks)) ∧ SimB w ρ (appE bx' (frzE bx ks)) ∧ Frz bx ks (appE bx' (frzE bx ks))
  | [], bx', hs, _, _ => ⟨Ext.refl, hs, fun k hk => by simp at hk⟩
  | k :: ks, bx', hs, hag, hnd => by
    simp only [nodupB, Bool.and_eq_true, Bool.not_eq_true', List.contains_eq_mem, decide_eq_false_iff_not] at hnd
    obtain ⟨hk, hnd⟩ := hnd
    have hkk := hag k (List.mem_cons_self ..)
    unfold frzE
    split
    · rename_i full e q hb
      rw [hb] at hkk
      obtain ⟨he, hs1⟩ := hs.freeze hkk
      obtain ⟨he2, hs2, hf⟩ := SimB.frzs ks _ hs1 (fun j hj => by
        have hne : j ≠ k := fun e => hk (e ▸ hj)
        rw [bget_setBox, if_neg hne]
        exact hag j (List.mem_cons_of_mem _ hj)) hnd
      refine ⟨he.trans he2, hs2, fun j hj q' hr => ?_⟩
      rcases List.mem_cons.1 hj with rfl | hj
      · rw [hb] at hr
        simp only [rowOf, Option.some.injEq] at hr
        subst hr
        refine ⟨e, ?_⟩
        simp only [appE]
        rw [appE_other _ _ _ (fun b hb' => hk (frzE_keys hb')), bget_setBox, if_pos rfl]
      · exact hf j hj q' hr
    · rename_i hne
      obtain ⟨he2, hs2, hf⟩ := SimB.frzs ks _ hs (fun j hj => hag j (List.mem_cons_of_mem _ hj)) hnd
      refine ⟨he2, hs2, fun j hj q' hr => ?_⟩
      rcases List.mem_cons.1 hj with rfl | hj
      · cases hb : bget bx j with
        | row full e q => exact absurd hb (hne full e q)
        | frz e q =>
          rw [hb] at hr
          simp only [rowOf, Option.some.injEq] at hr
          subst hr
          exact ⟨e, by rw [appE_other _ _ _ (fun b hb' => hk (frzE_keys hb')), hkk, hb]⟩
        | _ => rw [hb] at hr; cases hr
      · exact hf j hj q' hr

/-! values as trees -/
def tT (bx : Bxs) (o : LK Sig.TI) (a : AV) : Option (Tree × List Nat) :=
  match a with
  | .lit v => some (.lit v, [])
  | .sl q => some (.sl q, [])
  | .e0 => match o with
    | .sl e => some (.sl ⟨e, []⟩, [])
    | _ => none
  | .row k => match rowOf (bget bx k) with
    | some q => some (.sl q, [k])
    | none => none
  | _ => none
def tTs (bx : Bxs) : List (LK Sig.TI) → List AV → Option (List Tree × List Nat)
  | [], [] => some ([], [])
  | o :: os, a :: as =>
    match tT bx o a, tTs bx os as with
    | some (t, k), some (ts, ks) => some (t :: ts, k ++ ks)
    | _, _ => none
  | _, _ => none
theorem e0_repT {w : World} {ok : Nat → Prop} (a : Option Addr) (q : Row) (hq : q.n = 0) : RepT w ok (.slice a 0 0) (.sl q) :=
  .sl a 0 0 q (fun _ _ => undef) hq (Nat.le_refl _) (Nat.zero_le _) (fun i j h => by omega) (fun i j h => by omega) (fun i j t h => by omega)
theorem tT_sound {bx : Bxs} {o : LK Sig.TI} {a : AV} {t : Tree} {ks : List Nat} (h : tT bx o a = some (t, ks)) {w : World} {ρ : Env} {bx2 : Nat → Box} (hs : SimB w ρ bx2) (hf : Frz bx ks bx2) {v : Value} (hr : Rep w ρ bx2 v a) : RepT w (okS ρ bx2) v t := by
  unfold tT at h
  split at h
  · simp only [Option.some.injEq, Prod.mk.injEq] at h
    obtain ⟨rfl, rfl⟩ := h
    rw [hr.inv_lit]; exact .lit _
  · simp only [Option.some.injEq, Prod.mk.injEq] at h
    obtain ⟨rfl, rfl⟩ := h
    exact hr.inv_sl
  · split at h
    · simp only [Option.some.injEq, Prod.mk.injEq] at h
      obtain ⟨rfl, rfl⟩ := h
      obtain ⟨A, rfl⟩ := hr.inv_e0
      exact e0_repT A _ rfl
    · cases h
  · rename_i k
    split at h
    · rename_i q hq
      simp only [Option.some.injEq, Prod.mk.injEq] at h
      obtain ⟨rfl, rfl⟩ := h
      obtain ⟨e, hb⟩ := hf k (by simp) q hq
      have hsim := hs.box k
      rw [hb] at hsim
      rw [hr.inv_row.2]
      exact frz_repT hsim
    · cases h
  · cases h
theorem tTs_sound {bx : Bxs} {w : World} {ρ : Env} {bx2 : Nat → Box} (hs : SimB w ρ bx2) : ∀ (as : List AV) (os : List (LK Sig.TI)) (ts : List Tree) (ks : List Nat) (vs : List Value), tTs bx os as = some (ts, ks) → Frz bx ks bx2 → RepL w ρ bx2 vs as → RepTL w (okS ρ bx2) vs ts
  | [], [], ts, ks, vs, h, _, hr => by
    simp only [tTs, Option.some.injEq, Prod.mk.injEq] at h
    obtain ⟨rfl, rfl⟩ := h
    exact ⟨hr.1, fun i v t h1 h2 => by simp at h2⟩
  | [], _ :: _, ts, ks, vs, h, _, hr => by cases h
  | _ :: _, [], ts, ks, vs, h, _, hr => by cases h
  | a :: as, o :: os, ts, ks, vs, h, hf, hr => by
    simp only [tTs] at h
    split at h
    · rename_i t k ts' ks' h1 h2
      simp only [Option.some.injEq, Prod.mk.injEq] at h
      obtain ⟨rfl, rfl⟩ := h
      cases vs with
      | nil => have := hr.1; simp at this
      | cons v vs =>
        have ih := tTs_sound hs as os ts' ks' vs h2 (fun j hj => hf j (by simp [hj])) ⟨by have := hr.1; simpa using this, fun i v t a b => hr.2 (i + 1) v t (by simpa using a) (by simpa using b)⟩
        have h0 := tT_sound h1 hs (fun j hj => hf j (by simp [hj])) (hr.2 0 v a rfl rfl)
        refine ⟨by simp [ih.1], fun i v' t' e1 e2 => ?_⟩
        match i, e1, e2 with
        | 0, e1, e2 => simp at e1 e2; subst e1; subst e2; exact h0
        | i + 1, e1, e2 => exact ih.2 i v' t' (by simpa using e1) (by simpa using e2)
    · cases h

/-! stores into rows -/
theorem splice_get {cur us : List Value} {off N : Nat} (hb : off + us.length ≤ N) (hN : N ≤ cur.length) {idx : Nat} {v : Value} (h : ((cur.take off ++ us ++ cur.drop (off + us.length)).take N)[idx]? = some v) :
    idx < N ∧ ((off ≤ idx ∧ idx < off + us.length ∧ us[idx - off]? = some v) ∨ ((idx < off ∨ off + us.length ≤ idx) ∧ (cur.take N)[idx]? = some v)) := by
  rw [List.getElem?_take] at h
  split at h
  · rename_i hlt
    refine ⟨hlt, ?_⟩
    rw [List.append_assoc, List.getElem?_append] at h
    have a1 : (cur.take off).length = off := by simp; omega
    rw [a1] at h
    rw [List.getElem?_take, if_pos hlt]
    by_cases h1 : idx < off
    · rw [if_pos h1, List.getElem?_take, if_pos h1] at h
      exact .inr ⟨.inl h1, h⟩
    · rw [if_neg h1, List.getElem?_append] at h
      by_cases h2 : idx - off < us.length
      · rw [if_pos h2] at h
        exact .inl ⟨by omega, by omega, h⟩
      · rw [if_neg h2, List.getElem?_drop, show off + us.length + (idx - off - us.length) = idx by omega] at h
        exact .inr ⟨.inr (by omega), h⟩
  · cases h
def spliceT (cs : List Tree) (off : Nat) (new : List Tree) : List Tree := cs.take off ++ new ++ cs.drop (off + new.length)
theorem spliceT_get {cs new : List Tree} {off : Nat} (hb : off + new.length ≤ cs.length) {j : Nat} {t : Tree} (h : (spliceT cs off new)[j]? = some t) :
    (off ≤ j ∧ j < off + new.length ∧ new[j - off]? = some t) ∨ ((j < off ∨ off + new.length ≤ j) ∧ cs[j]? = some t) := by
  unfold spliceT at h
  rw [List.append_assoc, List.getElem?_append] at h
  have a1 : (cs.take off).length = off := by simp; omega
  rw [a1] at h
  by_cases h1 : j < off
  · rw [if_pos h1, List.getElem?_take, if_pos h1] at h
    exact .inr ⟨.inl h1, h⟩
  · rw [if_neg h1, List.getElem?_append] at h
    by_cases h2 : j - off < new.length
    · rw [if_pos h2] at h
      exact .inl ⟨by omega, by omega, h⟩
    · rw [if_neg h2, List.getElem?_drop, show off + new.length + (j - off - new.length) = j by omega] at h
      exact .inr ⟨.inr (by omega), h⟩
theorem RowRep.set {w : World} {ok : Nat → Prop} {cur us : List Value} {q : Row} {ts : List Tree} {i j : Nat} (h : RowRep w ok (cur.take (q.n * q.sz)) q) (hi : i < q.n) (hj : j + ts.length ≤ q.sz) (hcur : q.n * q.sz ≤ cur.length)
    (hfit : fits (Sig.shp q.e) (spliceT (q.g i) j ts) = true) (hu : RepTL w ok us ts) (hone : ∀ u, u ∈ us → u.oneCell' = true) :
    RowRep w ok ((cur.take (i * q.sz + j) ++ us ++ cur.drop (i * q.sz + j + us.length)).take (q.n * q.sz)) (q.put i (spliceT (q.g i) j ts)) := by
  have hlu := hu.1
  have h1 : (i + 1) * q.sz ≤ q.n * q.sz := Nat.mul_le_mul_right _ hi
  have h2 : (i + 1) * q.sz = i * q.sz + q.sz := by rw [Nat.add_mul]; omega
  have hlen := q.g_len i
  refine ⟨fun v hv => ?_, fun i' j' t v hi' ht hv => ?_⟩
  · obtain ⟨idx, hidx⟩ := List.mem_iff_getElem?.1 hv
    rcases (splice_get (by omega) hcur hidx).2 with ⟨_, _, hg⟩ | ⟨_, hg⟩
    · exact hone v (List.mem_of_getElem? hg)
    · exact h.one v (List.mem_of_getElem? hg)
  · rw [RowOf.put_sz] at hv
    rw [RowOf.put_n] at hi'
    rw [RowOf.put_g q hfit hi] at ht
    obtain ⟨hlt, hsp⟩ := splice_get (by omega) hcur hv
    by_cases hii : i' = i
    · subst hii
      rw [if_pos rfl] at ht
      rcases spliceT_get (by omega) ht with ⟨a1, a2, a3⟩ | ⟨a1, a3⟩
      · rcases hsp with ⟨b1, b2, b3⟩ | ⟨b1, b3⟩
        · rw [show i' * q.sz + j' - (i' * q.sz + j) = j' - j by omega] at b3
          exact hu.2 _ v t b3 a3
        · omega
      · rcases hsp with ⟨b1, b2, b3⟩ | ⟨b1, b3⟩
        · omega
        · exact h.rep i' j' t v hi a3 b3
    · rw [if_neg hii] at ht
      have hj' : j' < q.sz := by rw [← q.g_len i']; exact (List.getElem?_eq_some_iff.1 ht).1
      rcases hsp with ⟨b1, b2, b3⟩ | ⟨b1, b3⟩
      · exfalso
        rcases Nat.lt_or_gt_of_ne hii with hlt' | hgt
        · have : (i' + 1) * q.sz ≤ i * q.sz := Nat.mul_le_mul_right _ hlt'
          rw [Nat.add_mul] at this
          omega
        · have : (i + 1) * q.sz ≤ i' * q.sz := Nat.mul_le_mul_right _ hgt
          omega
      · exact h.rep i' j' t v hi' ht b3

/-- the kinds of the cells of a type -/
def shpT (t : TypeId) : Option (List (LK Sig.TI)) := (Sig.ofId t).map Sig.shp
def storeRowF (P : Program) (t : TypeId) (p x : AV) (bx : Bxs) : Res :=
  match tyI P t, p with
  | some (n, _), .rp k sz i j =>
    match bget bx k, (shpT t).bind fun os => tTs bx os (cellsA x) with
    | .row full e q, some (ts, ks) =>
      if sz = q.sz ∧ ts.length = n ∧ j + n ≤ sz ∧ x.fit = true ∧ nodupB (k :: ks) = true ∧ fits (Sig.shp q.e) (spliceT (q.g i) j ts) = true then
        some (none, .lit undef, frzE bx ks ++ [(k, .row full e (q.put i (spliceT (q.g i) j ts)))], k :: ks)
      else none
    | _, _ => none
  | _, _ => none
def storeF2 (P : Program) (t : TypeId) (p x : AV) (bx : Bxs) : Res :=
  match p with
  | .rp .. => storeRowF P t p x bx
  | _ => storeF P t p x bx

theorem storeRow_sound {P : Program} {o : Oper} {ev : Operand → AV} {bx : Bxs} {c : Option Bool} {r : AV} {e : List (Nat × Box)} {rd : List Nat} {t : Nat} {x y : Operand} (ho : o.op = .store t x y)
    (h : storeRowF P t (ev x) (ev y) bx = some (c, r, e, rd)) : LocalOk P o ev bx r e rd := by
  unfold storeRowF at h
  split at h
  · rename_i n ag k sz i j hty hx
    split at h
    · rename_i full et q ts ks hk hts
      split at h
      · rename_i hcond
        obtain ⟨rfl, hlen, hle, hfit, hnd, hfits⟩ := hcond
        obtain ⟨os, hos, hts⟩ := Option.bind_eq_some_iff.1 hts
        simp only [Option.some.injEq, Prod.mk.injEq] at h
        obtain ⟨rfl, rfl, rfl, rfl⟩ := h
        have hnd' := hnd
        simp only [nodupB, Bool.and_eq_true, Bool.not_eq_true', List.contains_eq_mem, decide_eq_false_iff_not] at hnd'
        obtain ⟨hkn, hnd⟩ := hnd'
        refine LocalOk.run fun w ρ bx' a hag hnew hs hr => ?_
        have hxr := hr x (by rw [ho]; simp [Op.operands])
        have hyr := hr y (by rw [ho]; simp [Op.operands])
        rw [hx] at hxr
        obtain ⟨_, hv⟩ := hxr.inv_rp
        obtain ⟨he1, hs1, hf1⟩ := hs.frzs ks bx' (fun j hj => hag j (by simp [hj])) hnd
        have hk1 : appE bx' (frzE bx ks) k = .row full et q := by
          rw [appE_other _ _ _ (fun b hb => hkn (frzE_keys hb)), hag k (by simp), hk]
        have hyr1 := hyr.ext he1
        obtain ⟨hc1, hc2⟩ := hyr1.cells hfit
        have htr := tTs_sound hs1 _ _ _ _ _ hts hf1 hc1
        have hl1 : (a.eval y).cells.toList.length = n := by rw [htr.1]; exact hlen
        have hb := hs1.box k
        rw [hk1] at hb
        obtain ⟨xs, hown, hrow, hβ, hfull⟩ := hb
        have hlt : i < q.n := hown.bound hxr.inv_rpn
        obtain ⟨g, cap, cur, hv', hob, hF, hh, hcap, hmax, hcs, htk⟩ := hown.block (by omega)
        have hg := hβ g hob
        have a1 : (i + 1) * q.sz ≤ q.n * q.sz := Nat.mul_le_mul_right _ hlt
        have a2 : (i + 1) * q.sz = i * q.sz + q.sz := by rw [Nat.add_mul]; omega
        have a3 : q.n * q.sz ≤ (cap + 1) * q.sz := Nat.mul_le_mul_right _ hcap
        have hst := run_storeCells_at (P := P) g (i * q.sz + j) et (a.eval y).cells.toList 0 cur w hh (by simp only [Nat.add_zero]; omega) hc2
        simp only [Nat.add_zero] at hst
        have hcl : cur.toList.length = cur.size := Array.length_toList
        rw [← htk] at hrow
        obtain ⟨he2, hs2⟩ := hs1.setRow hk1 (q' := q.put i (spliceT (q.g i) j ts)) (q.put_n _ _) (q.put_sz _ _) hv' (cur := cur.toList) (cur' := cur.toList.take (i * q.sz + j) ++ (a.eval y).cells.toList ++ cur.toList.drop (i * q.sz + j + (a.eval y).cells.toList.length)) hh
          (by simp only [List.length_append, List.length_take, List.length_drop]; omega)
          (hrow.set hlt (by omega) (by omega) hfits htr hc2)
        have hsz : (a.eval y).cells.size = n := by rw [← hl1]; simp
        refine ⟨.skip, undef, w.setRow g (cur.toList.take (i * q.sz + j) ++ (a.eval y).cells.toList ++ cur.toList.drop (i * q.sz + j + (a.eval y).cells.toList.length)).toArray, ρ, ?_, .inr ⟨rfl, rfl⟩, by rw [appE_append]; exact he1.trans he2, by rw [appE_append]; exact hs2, .lit _⟩
        rw [hg] at hv
        simp [execOp, ho, hv, Instr.storeAt, Instr.sureAddr, storeVar, run_sizeOf_of hty, hsz, hst]
      · cases h
    · cases h
  · cases h
theorem store2_sound {P : Program} {o : Oper} {ev : Operand → AV} {bx : Bxs} {c : Option Bool} {r : AV} {e : List (Nat × Box)} {rd : List Nat} {t : Nat} {x y : Operand} (ho : o.op = .store t x y)
    (h : storeF2 P t (ev x) (ev y) bx = some (c, r, e, rd)) : LocalOk P o ev bx r e rd := by
  unfold storeF2 at h
  split at h
  · exact storeRow_sound ho h
  · exact store_sound ho h
end Go.Cm
