/- The abstract machine, third state, part 22: the contract of a function on plain data out of the function of its text. No condition. -/
import Derived.Test.YtibcoiabdnbdjaaDoorCml
namespace Go.Cm
open Go.RowKit
set_option linter.unusedSectionVars false
variable [Sig]

def cellsR (t : Sig.TI) (a : AV) : Option (List AV) :=
  match Sig.isAgg t, a with
  | true, .agg cs => some cs
  | true, _ => none
  | false, a => some [a]
def packT (B : Bxs) (t : Sig.TI) (os : List (Option TypeId)) (a : AV) : Option (Sig.Car t × List Nat × List Nat) :=
  match cellsR t a with
  | none => none
  | some cs => match packC B (Sig.shp t) os cs with
    | none => none
    | some (c, ks, ow) => match fits (Sig.shp t) c with
      | true => some (Sig.dec t c, ks, ow)
      | false => none
def packRT (B : Bxs) : (t : Sig.TI) → (ts : List Sig.TI) → List (List (Option TypeId)) → List AV → Option (RessT t ts × List Nat × List Nat)
  | t, [], os, as => match as with
    | [a] => packT B t (os.headD []) a
    | _ => none
  | t, t' :: ts, os, as => match as with
    | [] => none
    | a :: as => match packT B t (os.headD []) a with
      | none => none
      | some (x, ks, ow) => match packRT B t' ts os.tail as with
        | none => none
        | some (y, ks', ow') => some ((x, y), ks ++ ks', ow ++ ow')
def packR (B : Bxs) : (ts : List Sig.TI) → List (List (Option TypeId)) → List AV → Option (Ress ts × List Nat × List Nat)
  | [], _, as => match as with
    | [] => some ((), [], [])
    | _ => none
  | t :: ts, os, as => packRT B t ts os as
def finK (P : Program) (ress : List Sig.TI) (own : List (List (Option TypeId))) (rs : List ResultVar) (x : Ex) (s : St) : Option (Ress ress) :=
  match x with
  | .ex _ => bad 50
  | .pan _ => bad 64
  | .panP .. => bad 67
  | _ => match retV P s rs with
    | none => bad 51
    | some as => match packR s.B ress own as with
      | none => bad 52
      | some (r, ks, ow) => match nodupB ow && (ddup ks).all (fun k => !ow.contains k) with
        | true => some r
        | false => bad 53
def evFn {R : Type} : (ts : List Sig.TI) → (List (List Tree) → R) → Fn ts R
  | [], k => k []
  | t :: ts, k => fun x => evFn ts fun cs => k (Sig.enc t x :: cs)
/-- the function of a function's text -/
def bodyFn (cx : Ctx) (e2 : Env2) (f : FuncId) (fn : Func) (pars ress : List Sig.TI) (own : List (List (Option TypeId))) : Fn pars (Option (Ress ress)) :=
  evFn pars fun cs => match fn.body with
    | none => bad 54
    | some c => ev cx e2 100000 false f fn.ntmps [] c (Ress ress) ⟨args0 (argA pars cs) 0, [], [], [], 0⟩ (finK cx.P ress own fn.results.toList)

theorem apF_evFn {R : Type} : ∀ (ts : List Sig.TI) (k : List (List Tree) → R) (cs : List (List Tree)) (r : R), apF ts (evFn ts k) cs = some r → r = k cs
  | [], k, [], r, h => by simp only [apF, evFn, Option.some.injEq] at h; exact h.symm
  | [], k, _ :: _, r, h => by cases h
  | t :: ts, k, [], r, h => by cases h
  | t :: ts, k, c :: cs, r, h => by
    simp only [apF] at h
    split at h
    · rename_i hf
      have := apF_evFn ts (fun cs => k (Sig.enc t (Sig.dec t c) :: cs)) cs r h
      rw [this, Sig.enc_dec _ _ hf]
    · cases h
theorem apF_length {R : Type} : ∀ (ts : List Sig.TI) (f : Fn ts R) (cs : List (List Tree)) (r : R), apF ts f cs = some r → (argA ts cs).length = ts.length
  | [], _, [], _, _ => rfl
  | [], _, _ :: _, _, h => by cases h
  | t :: ts, _, [], _, h => by cases h
  | t :: ts, f, c :: cs, r, h => by
    simp only [apF] at h
    split at h
    · simp [argA, apF_length ts _ cs r h]
    · cases h

section
variable {B : Bxs} {w : World} {ρ ρ' : Env} {b1 bU : Nat → Box} {n0 : Nat} {own ks : List Nat}
theorem packT_spec {t : Sig.TI} {os : List (Option TypeId)} {a : AV} {x : Sig.Car t} {ks' ow : List Nat} {j : Nat} (h : packT B t os a = some (x, ks', ow)) :
    ((resC os (Sig.enc t x) (n0 + j)).2.length = ow.length ∧ (∀ i, i < ow.length → ∃ b, (n0 + j + i, b) ∈ (resC os (Sig.enc t x) (n0 + j)).2) ∧
      ∀ k b, (k, b) ∈ (resC os (Sig.enc t x) (n0 + j)).2 → ∃ i k' full et q, k = n0 + j + i ∧ ow[i]? = some k' ∧ b = .row false et q ∧ bget B k' = .row full et q) ∧
    (EHyp B w ρ b1 ρ' bU n0 own ks → (∀ k, k ∈ ks' → k ∈ ks) → (∀ i k, ow[i]? = some k → own[j + i]? = some k) → ∀ v, Rep w ρ b1 v a → Rep w ρ' bU v (avT t (resC os (Sig.enc t x) (n0 + j)).1)) := by
  unfold packT at h
  split at h
  · cases h
  · rename_i cs hcs
    split at h
    · cases h
    · rename_i c k1 w1 hp
      split at h
      · rename_i hf
        simp only [Option.some.injEq, Prod.mk.injEq] at h
        obtain ⟨rfl, rfl, rfl⟩ := h
        rw [Sig.enc_dec _ _ hf]
        refine ⟨packC_boxes _ _ _ _ _ _ _ hp, fun H hks how v hv => ?_⟩
        unfold cellsR at hcs
        split at hcs
        · rename_i hag
          injection hcs with hcs
          subst hcs
          obtain ⟨vs, rfl, hvs⟩ := hv.inv_agg
          exact avT_rep (.inl ⟨hag, rfl⟩) (packC_sound H _ _ _ _ _ _ j vs hp hks how hvs)
        · cases hcs
        · rename_i hag
          injection hcs with hcs
          subst hcs
          refine avT_rep (.inr ⟨hag, rfl⟩) (packC_sound H _ _ _ _ _ _ j [v] hp hks how ⟨rfl, fun i v' t' h1 h2 => ?_⟩)
          match i, h1, h2 with
          | 0, h1, h2 => simp at h1 h2; subst h1; subst h2; exact hv
          | i + 1, h1, _ => simp at h1
      · cases h
theorem resL_one (t : Sig.TI) (os : List (List (Option TypeId))) (c : List Tree) (n : Nat) : resL [t] os [c] n = ([avT t (resC (os.headD []) c n).1], (resC (os.headD []) c n).2) := by
  simp [resL]
theorem packRT_spec (ts : List Sig.TI) : ∀ (t : Sig.TI) (os : List (List (Option TypeId))) (as : List AV) (r : RessT t ts) (ks' ow : List Nat) (j : Nat), packRT B t ts os as = some (r, ks', ow) →
    ((resL (t :: ts) os (encT t ts r) (n0 + j)).2.length = ow.length ∧ (∀ i, i < ow.length → ∃ b, (n0 + j + i, b) ∈ (resL (t :: ts) os (encT t ts r) (n0 + j)).2) ∧
      ∀ k b, (k, b) ∈ (resL (t :: ts) os (encT t ts r) (n0 + j)).2 → ∃ i k' full et q, k = n0 + j + i ∧ ow[i]? = some k' ∧ b = .row false et q ∧ bget B k' = .row full et q) ∧
    (EHyp B w ρ b1 ρ' bU n0 own ks → (∀ k, k ∈ ks' → k ∈ ks) → (∀ i k, ow[i]? = some k → own[j + i]? = some k) → ∀ vs, RepL w ρ b1 vs as → RepL w ρ' bU vs (resL (t :: ts) os (encT t ts r) (n0 + j)).1) := by
  induction ts with
  | nil =>
    intro t os as r ks' ow j h
    match as, h with
    | [], h => cases h
    | _ :: _ :: _, h => cases h
    | [a], h =>
      have h : packT B t (os.headD []) a = some (r, ks', ow) := h
      obtain ⟨h1, h2⟩ := packT_spec (n0 := n0) (j := j) (w := w) (ρ := ρ) (b1 := b1) (ρ' := ρ') (bU := bU) (own := own) (ks := ks) h
      rw [show encT t [] r = [Sig.enc t r] from rfl, resL_one]
      refine ⟨h1, fun H hks how vs hr => ?_⟩
      obtain ⟨v, us, rfl, hv, hus⟩ := hr.head
      have : us = [] := List.eq_nil_of_length_eq_zero hus.1
      subst this
      exact RepL.cons (h2 H hks how v hv) ⟨rfl, fun i v t h1 => by simp at h1⟩
  | cons t' ts ih =>
    intro t os as r ks' ow j h
    unfold packRT at h
    split at h
    · cases h
    · rename_i a as
      split at h
      · cases h
      · rename_i x k1 w1 hp
        split at h
        · cases h
        · rename_i y k2 w2 hq
          simp only [Option.some.injEq, Prod.mk.injEq] at h
          obtain ⟨rfl, rfl, rfl⟩ := h
          obtain ⟨⟨a1, a2, a3⟩, a4⟩ := packT_spec (n0 := n0) (j := j) (w := w) (ρ := ρ) (b1 := b1) (ρ' := ρ') (bU := bU) (own := own) (ks := ks) hp
          obtain ⟨⟨c1, c2, c3⟩, c4⟩ := ih t' os.tail as y k2 w2 (j + w1.length) hq
          have e1 : resL (t :: t' :: ts) os (Sig.enc t x :: encT t' ts y) (n0 + j) =
              (avT t (resC (os.headD []) (Sig.enc t x) (n0 + j)).1 :: (resL (t' :: ts) os.tail (encT t' ts y) (n0 + (j + w1.length))).1, (resC (os.headD []) (Sig.enc t x) (n0 + j)).2 ++ (resL (t' :: ts) os.tail (encT t' ts y) (n0 + (j + w1.length))).2) := by
            rw [resL, a1, Nat.add_assoc]
          rw [show encT t (t' :: ts) (x, y) = Sig.enc t x :: encT t' ts y from rfl, e1]
          refine ⟨⟨by rw [List.length_append, List.length_append, a1, c1], fun i hi => ?_, fun k b hb => ?_⟩, fun H hks how vs hr => ?_⟩
          · by_cases hlt : i < w1.length
            · obtain ⟨b, hb⟩ := a2 i hlt; exact ⟨b, List.mem_append_left _ hb⟩
            · obtain ⟨b, hb⟩ := c2 (i - w1.length) (by simp at hi; omega)
              exact ⟨b, List.mem_append_right _ (by rw [show n0 + j + i = n0 + (j + w1.length) + (i - w1.length) by omega]; exact hb)⟩
          · rcases List.mem_append.1 hb with hb | hb
            · obtain ⟨i, k', full, et, q, g1, g2, g3, g4⟩ := a3 k b hb
              exact ⟨i, k', full, et, q, g1, by rw [List.getElem?_append_left (List.getElem?_eq_some_iff.1 g2).1]; exact g2, g3, g4⟩
            · obtain ⟨i, k', full, et, q, g1, g2, g3, g4⟩ := c3 k b hb
              exact ⟨w1.length + i, k', full, et, q, by omega, by rw [List.getElem?_append_right (by omega)]; simpa using g2, g3, g4⟩
          · obtain ⟨v, us, rfl, hv, hus⟩ := hr.head
            refine RepL.cons (a4 H (fun k hk => hks k (by simp [hk])) (fun i k hi => how i k (by rw [List.getElem?_append_left (List.getElem?_eq_some_iff.1 hi).1]; exact hi)) v hv) ?_
            refine c4 H (fun k hk => hks k (by simp [hk])) (fun i k hi => ?_) us hus
            rw [show j + w1.length + i = j + (w1.length + i) by omega]
            exact how (w1.length + i) k (by rw [List.getElem?_append_right (by omega)]; simpa using hi)
theorem packR_spec (ts : List Sig.TI) (os : List (List (Option TypeId))) (as : List AV) (r : Ress ts) (ks' ow : List Nat) (j : Nat) (h : packR B ts os as = some (r, ks', ow)) :
    ((resL ts os (encR ts r) (n0 + j)).2.length = ow.length ∧ (∀ i, i < ow.length → ∃ b, (n0 + j + i, b) ∈ (resL ts os (encR ts r) (n0 + j)).2) ∧
      ∀ k b, (k, b) ∈ (resL ts os (encR ts r) (n0 + j)).2 → ∃ i k' full et q, k = n0 + j + i ∧ ow[i]? = some k' ∧ b = .row false et q ∧ bget B k' = .row full et q) ∧
    (EHyp B w ρ b1 ρ' bU n0 own ks → (∀ k, k ∈ ks' → k ∈ ks) → (∀ i k, ow[i]? = some k → own[j + i]? = some k) → ∀ vs, RepL w ρ b1 vs as → RepL w ρ' bU vs (resL ts os (encR ts r) (n0 + j)).1) := by
  cases ts with
  | nil =>
    match as, h with
    | _ :: _, h => cases h
    | [], h =>
      have h1 : ([] : List Nat) = ks' := congrArg (fun o : Option (Ress [] × List Nat × List Nat) => (o.elim [] (·.2.1))) h
      have h2 : ([] : List Nat) = ow := congrArg (fun o : Option (Ress [] × List Nat × List Nat) => (o.elim [] (·.2.2))) h
      subst h1; subst h2
      refine ⟨⟨rfl, fun i hi => by simp at hi, fun k b hb => by simp [resL, encR] at hb⟩, fun _ _ _ vs hr => ⟨hr.1, fun i v t _ h2 => by simp [resL, encR] at h2⟩⟩
  | cons t ts => exact packRT_spec ts t os as r ks' ow j h
end

theorem appE_mem : ∀ (e : List (Nat × Box)) (b0 : Nat → Box) (k : Nat), (k, appE b0 e k) ∈ e ∨ (k ∉ keys e ∧ appE b0 e k = b0 k)
  | [], b0, k => .inr ⟨by simp [keys], rfl⟩
  | (j, b) :: e, b0, k => by
    simp only [appE]
    rcases appE_mem e (setBox b0 j b) k with h | ⟨h1, h2⟩
    · exact .inl (List.mem_cons_of_mem _ h)
    · by_cases hk : k = j
      · subst hk
        rw [h2, bget_setBox, if_pos rfl]
        exact .inl (List.mem_cons_self ..)
      · refine .inr ⟨by simp only [keys, List.map_cons, List.mem_cons, not_or]; exact ⟨hk, h1⟩, ?_⟩
        rw [h2, bget_setBox, if_neg hk]

/-- the boxes of a result -/
theorem finish {B : Bxs} {w : World} {ρ : Env} (hs : SimB w ρ (bget B)) {ks ow : List Nat} {n : Nat} {e : List (Nat × Box)} (hks : nodupB ks = true) (how : nodupB ow = true) (hdis : ∀ k, k ∈ ks → k ∉ ow)
    (hlen : ∀ i, i < ow.length → ∃ b, (n + i, b) ∈ e) (hbox : ∀ k b, (k, b) ∈ e → ∃ i k' full et q, k = n + i ∧ ow[i]? = some k' ∧ b = .row false et q ∧ bget B k' = .row full et q) :
    ∃ ρ' b1, EHyp B w ρ b1 ρ' (appE nilB e) n ow ks ∧ SimB w ρ' (appE nilB e) ∧ Ext w ρ (bget B) w ρ b1 ∧ ρ'.A = ρ.A ∧ ∀ b, Mut ρ' (appE nilB e) b → Mut ρ b1 b := by
  obtain ⟨he1, hs1, hf1⟩ := SimB.frzs (bx := B) ks (bget B) hs (fun _ _ => rfl) hks
  generalize hb1 : appE (bget B) (frzE B ks) = b1 at he1 hs1 hf1
  have b1_out : ∀ k, k ∉ ks → b1 k = bget B k := fun k hk => by rw [← hb1]; exact appE_other _ _ _ fun b hb => hk (frzE_keys hb)
  let ρ' : Env := ⟨fun k => match ow[k - n]? with | some j => ρ.β j | none => 0, fun k => match ow[k - n]? with | some j => ρ.hd j | none => undef, ρ.A⟩
  have hhi : ∀ i k, ow[i]? = some k → ρ'.β (n + i) = ρ.β k ∧ ρ'.hd (n + i) = ρ.hd k := fun i k hi => by
    constructor
    · show (match ow[n + i - n]? with | some j => ρ.β j | none => 0) = ρ.β k
      rw [show n + i - n = i by omega, hi]
    · show (match ow[n + i - n]? with | some j => ρ.hd j | none => undef) = ρ.hd k
      rw [show n + i - n = i by omega, hi]
  have hcase : ∀ k, (∃ i k' full et q, k = n + i ∧ ow[i]? = some k' ∧ appE nilB e k = .row false et q ∧ b1 k' = .row full et q) ∨ (k ∉ keys e ∧ appE nilB e k = .nil) := fun k => by
    rcases appE_mem e nilB k with h | h
    · obtain ⟨i, k', full, et, q, g1, g2, g3, g4⟩ := hbox k _ h
      refine .inl ⟨i, k', full, et, q, g1, g2, g3, ?_⟩
      rw [b1_out k' (fun hk => hdis k' hk (List.mem_of_getElem? g2))]; exact g4
    · exact .inr h
  have hsrc : ∀ k b, own ρ' (appE nilB e) k = some b → ∃ i j, k = n + i ∧ ow[i]? = some j ∧ own ρ b1 j = some b := fun k b ho => by
    rcases hcase k with ⟨i, j, full, et, q, rfl, hi, h2, h3⟩ | ⟨_, h⟩
    · refine ⟨i, j, rfl, hi, ?_⟩
      unfold own at ho ⊢
      rw [h2] at ho
      rw [h3]
      simp only [(hhi i j hi).2] at ho
      exact ho
    · unfold own at ho; rw [h] at ho; cases ho
  have hmut : ∀ b, Mut ρ' (appE nilB e) b → Mut ρ b1 b := fun b ⟨k, hk⟩ => by obtain ⟨i, j, _, _, hj⟩ := hsrc k b hk; exact ⟨j, hj⟩
  have hok : ∀ b, b < w.heap.size → okS ρ b1 b → okS ρ' (appE nilB e) b := fun b _ hb => ⟨fun hm => hb.1 (hmut b hm), hb.2⟩
  refine ⟨ρ', b1, ⟨hs1, hf1, fun i k hi => ⟨?_, (hhi i k hi).2⟩, hok⟩, ⟨hs1.base, fun k => ?_, fun k k' b e1 e2 => ?_, hs1.glob.ext (Nat.le_refl _) fun b hb hlt => ⟨rfl, hok b hlt hb⟩⟩, he1, rfl, hmut⟩
  · obtain ⟨b, hb⟩ := hlen i (List.getElem?_eq_some_iff.1 hi).1
    rcases hcase (n + i) with ⟨_, _, _, _, _, _, _, h, _⟩ | ⟨h, _⟩
    · rw [h]; trivial
    · exact absurd (List.mem_map.2 ⟨(n + i, b), hb, rfl⟩) h
  · rcases hcase k with ⟨i, j, full, et, q, rfl, hi, h2, h3⟩ | ⟨_, h⟩
    · rw [h2]
      have hb := hs1.box j
      rw [h3] at hb
      obtain ⟨xs, g1, g2, g3, g4⟩ := hb
      exact ⟨xs, by rw [(hhi i j hi).2]; exact g1, g2.ok hok, by rw [(hhi i j hi).1, (hhi i j hi).2]; exact g3, fun h => by cases h⟩
    · rw [h]; trivial
  · obtain ⟨i, j, rfl, hi, hj⟩ := hsrc k b e1
    obtain ⟨i', j', rfl, hi', hj'⟩ := hsrc k' b e2
    have hjj := hs1.inj j j' b hj hj'
    subst hjj
    rw [nodup_inj how hi hi']

/-- a function's end -/
theorem fin_end {P : Program} {fn : Func} {ress : List Sig.TI} {own : List (List (Option TypeId))} {x : Ex} {s' : St} {r : Ress ress} (hx : finK P ress own fn.results.toList x s' = some r) {w : World} {ρ : Env} {hlim : ∀ j, (bget ([] : Bxs) j).made → j < 0} {nt : Nat} {a' : Act} {w' : World} {n : Nat}
    (hs' : Sim ⟨w, ρ, bget ([] : Bxs), 0, hlim⟩ nt [] s' a' w') :
    (x = .nrm ∨ x = .ret) ∧ (a'.defers = [] ∧ ∃ v, (results fn a'.tmps).run P w' = .ok v w' ∧ ∃ v_1 ρ', Ending.returned v = Ending.returned v_1 ∧ Ext w ρ nilB w' ρ' (appE nilB (resL ress own (encR ress r) n).2) ∧ SimB w' ρ' (appE nilB (resL ress own (encR ress r) n).2) ∧ Rep w' ρ' (appE nilB (resL ress own (encR ress r) n).2) v_1 (oneA (resL ress own (encR ress r) n).1)) := by
  obtain ⟨⟨ρ', g1, g2, g3⟩, hd, _⟩ := hs'
  have hfin : ∃ as ks ow, retV P s' fn.results.toList = some as ∧ packR s'.B ress own as = some (r, ks, ow) ∧ nodupB ow = true ∧ (∀ k, k ∈ ddup ks → k ∉ ow) ∧ (x = .nrm ∨ x = .ret) := by
    unfold finK at hx
    split at hx
    · cases hx
    · cases hx
    · cases hx
    · rename_i hne1 hne2 hne3
      split at hx
      · cases hx
      · rename_i as has
        split at hx
        · cases hx
        · rename_i r' ks ow hp
          split at hx
          · rename_i hc
            injection hx with hx
            subst hx
            simp only [Bool.and_eq_true] at hc
            refine ⟨as, ks, ow, has, hp, hc.1, fun k hk => ?_, ?_⟩
            · have := List.all_eq_true.1 hc.2 k hk
              simpa using this
            · cases x with
              | nrm => exact .inl rfl
              | ret => exact .inr rfl
              | ex i => exact absurd rfl (hne1 i)
              | pan v => exact absurd rfl (hne2 v)
              | panP t ti => exact absurd rfl (hne3 t ti)
          · cases hx
  obtain ⟨as, ks, ow, has, hp, how, hdis, hxx⟩ := hfin
  obtain ⟨us, u1, u2⟩ := results_sound (fn := fn) g2 g3 has
  obtain ⟨⟨p1, p2, p3⟩, _⟩ := packR_spec (n0 := n) (w := w') (ρ := ρ') (b1 := nilB) (ρ' := ρ') (bU := nilB) (own := []) (ks := []) ress own as r ks ow 0 hp
  simp only [Nat.add_zero] at p1 p2 p3
  obtain ⟨ρ2, b1, H, hsim, he1, hA, hmut⟩ := finish g2 (ddup_nodup ks) how hdis p2 p3
  obtain ⟨_, hrep⟩ := packR_spec (n0 := n) (w := w') (ρ := ρ') (b1 := b1) (ρ' := ρ2) (bU := appE nilB (resL ress own (encR ress r) n).2) (own := ow) (ks := ddup ks) ress own as r ks ow 0 hp
  simp only [Nat.add_zero] at hrep
  have hrl := hrep H (fun k hk => ddup_mem hk) (fun i k hi => by rw [Nat.zero_add]; exact hi) us (u2.ext he1)
  have hx1 : Ext w ρ nilB w' ρ' b1 := g1.trans he1
  have hext : Ext w ρ nilB w' ρ2 (appE nilB (resL ress own (encR ress r) n).2) := {
    below := hx1.below
    keep := hx1.keep
    mutOld := fun b hb hm => hx1.mutOld b hb (hmut b hm)
    env := fun k hm => hm.elim
    A := hA.trans hx1.A }
  exact ⟨hxx, hd, _, u1, _, ρ2, rfl, hext, hsim, oneA_rep hrl⟩

theorem bodyFn_den {cx : Ctx} {e2 : Env2} (hm : POk cx.P) (hΓ : ∀ f F, cx.Γ f = some F → DenF cx.P f F) (hΨ : ∀ f F, cx.Ψ f = some F → DenP cx.P f F) (hfns : ∀ g fn, e2.fns g = some fn → cx.P.funcs[g]? = some fn)
    {f : FuncId} {fn : Func} (hf : cx.P.funcs[f]? = some fn) (hsome : fn.body.isSome = true) (hname : (fn.name == "runtime.NumGoroutine") = false) {pars ress : List Sig.TI} {own : List (List (Option TypeId))} (hlen : pars.length ≤ fn.ntmps) :
    DenF cx.P f ⟨pars, ress, own, bodyFn cx e2 f fn pars ress own⟩ := by
  cases hb : fn.body with
  | none => rw [hb] at hsome; cases hsome
  | some c =>
    refine ⟨⟨fn, hf, hsome, hname⟩, fun cs r hr n => ⟨⟨fn, hf, hsome, hname⟩, fun w ρ vs hs hvs => ?_⟩⟩
    have hal := apF_length _ _ _ _ hr
    have hr' := apF_evFn _ _ _ _ hr
    simp only [hb] at hr'
    obtain ⟨x, s', hx, ht, hbt, hle, hO⟩ := (ev_sound hm hΓ hΨ hfns 100000 false f fn.ntmps [] c (Ress ress) _ _ r hr'.symm).ex
    have hlim : ∀ j, (bget ([] : Bxs) j).made → j < 0 := fun j hj => hj.elim
    have hnil : bget ([] : Bxs) = nilB := rfl
    refine calls_of_wp hf hb ?_
    refine wp_mono (hO _ _ _ _ (sim_start (ρ := ρ) (bi := []) (nb := 0) hlim (by rw [hnil]; exact hs) (by rw [hnil]; exact hvs) (by simp only at hal hlen ⊢; omega))) fun ex a' w' ⟨hexit, hs'⟩ => ?_
    obtain ⟨hxx, hfin⟩ := fin_end (n := n) hx hs'
    rcases hxx with rfl | rfl <;> (subst hexit; exact hfin)

/-! functions that may panic -/
def finKP (P : Program) (ress : List Sig.TI) (own : List (List (Option TypeId))) (rs : List ResultVar) (pt : TypeId) (pti : Sig.TI) (x : Ex) (s : St) : Option (Sum (Ress ress) (Sig.Car pti)) :=
  match x with
  | .pan v => (match decP pt pti v with
    | some c => some (.inr c)
    | none => bad 63)
  | x => (match finK P ress own rs x s with
    | some r => some (.inl r)
    | none => bad 68)
theorem finKP_inl {P : Program} {ress : List Sig.TI} {own : List (List (Option TypeId))} {rs : List ResultVar} {pt : TypeId} {pti : Sig.TI} {x : Ex} {s : St} {r : Ress ress} (h : finKP P ress own rs pt pti x s = some (.inl r)) : finK P ress own rs x s = some r := by
  unfold finKP at h
  split at h
  · split at h
    · injection h with h; cases h
    · cases h
  · split at h
    · rename_i r' hr
      injection h with h
      injection h with h
      rw [hr, h]
    · cases h
theorem finKP_inr {P : Program} {ress : List Sig.TI} {own : List (List (Option TypeId))} {rs : List ResultVar} {pt : TypeId} {pti : Sig.TI} {x : Ex} {s : St} {c : Sig.Car pti} (h : finKP P ress own rs pt pti x s = some (.inr c)) : x = .pan (panV pt pti c) := by
  unfold finKP at h
  split at h
  · split at h
    · rename_i v c' hc
      injection h with h
      injection h with h
      subst h
      rw [decP_spec hc]
    · cases h
  · split at h
    · injection h with h; cases h
    · cases h
/-- the boxes are forgotten -/
theorem Ext.forget {w w' : World} {ρ ρ' : Env} {b : Nat → Box} (h : Ext w ρ nilB w' ρ' b) : Ext w ρ nilB w' ρ' nilB where
  below := h.below
  keep := h.keep
  mutOld := fun b hb ⟨k, hk⟩ => by unfold own nilB at hk; cases hk
  env := fun k hm => hm.elim
  A := h.A
def bodyFnP (cx : Ctx) (e2 : Env2) (f : FuncId) (fn : Func) (pars ress : List Sig.TI) (own : List (List (Option TypeId))) (pt : TypeId) (pti : Sig.TI) : Fn pars (Option (Sum (Ress ress) (Sig.Car pti))) :=
  evFn pars fun cs => match fn.body with
    | none => bad 54
    | some c => ev cx e2 100000 false f fn.ntmps [] c (Sum (Ress ress) (Sig.Car pti)) ⟨args0 (argA pars cs) 0, [], [], [], 0⟩ (finKP cx.P ress own fn.results.toList pt pti)
theorem bodyFnP_den {cx : Ctx} {e2 : Env2} (hm : POk cx.P) (hΓ : ∀ f F, cx.Γ f = some F → DenF cx.P f F) (hΨ : ∀ f F, cx.Ψ f = some F → DenP cx.P f F) (hfns : ∀ g fn, e2.fns g = some fn → cx.P.funcs[g]? = some fn)
    {f : FuncId} {fn : Func} (hf : cx.P.funcs[f]? = some fn) (hsome : fn.body.isSome = true) (hname : (fn.name == "runtime.NumGoroutine") = false) {pars ress : List Sig.TI} {own : List (List (Option TypeId))} {pt : TypeId} {pti : Sig.TI} (hlen : pars.length ≤ fn.ntmps) :
    DenP cx.P f ⟨pars, ress, own, pt, pti, bodyFnP cx e2 f fn pars ress own pt pti⟩ := by
  cases hb : fn.body with
  | none => rw [hb] at hsome; cases hsome
  | some c =>
    have hlim : ∀ j, (bget ([] : Bxs) j).made → j < 0 := fun j hj => hj.elim
    have hnil : bget ([] : Bxs) = nilB := rfl
    refine ⟨⟨fn, hf, hsome, hname⟩, fun cs r hr n => ⟨⟨fn, hf, hsome, hname⟩, fun w ρ vs hs hvs => ?_⟩, fun cs y hr w ρ vs hs hvs => ?_⟩
    · have hal := apF_length _ _ _ _ hr
      have hr' := apF_evFn _ _ _ _ hr
      simp only [hb] at hr'
      obtain ⟨x, s', hx, ht, hbt, hle, hO⟩ := (ev_sound hm hΓ hΨ hfns 100000 false f fn.ntmps [] c _ _ _ _ hr'.symm).ex
      refine calls_of_wp hf hb ?_
      refine wp_mono (hO _ _ _ _ (sim_start (ρ := ρ) (bi := []) (nb := 0) hlim (by rw [hnil]; exact hs) (by rw [hnil]; exact hvs) (by simp only at hal hlen ⊢; omega))) fun ex a' w' ⟨hexit, hs'⟩ => ?_
      obtain ⟨hxx, hfin⟩ := fin_end (n := n) (finKP_inl hx) hs'
      rcases hxx with rfl | rfl <;> (subst hexit; exact hfin)
    · have hal := apF_length _ _ _ _ hr
      have hr' := apF_evFn _ _ _ _ hr
      simp only [hb] at hr'
      obtain ⟨x, s', hx, ht, hbt, hle, hO⟩ := (ev_sound hm hΓ hΨ hfns 100000 false f fn.ntmps [] c _ _ _ _ hr'.symm).ex
      refine calls_of_wp hf hb ?_
      refine wp_mono (hO _ _ _ _ (sim_start (ρ := ρ) (bi := []) (nb := 0) hlim (by rw [hnil]; exact hs) (by rw [hnil]; exact hvs) (by simp only at hal hlen ⊢; omega))) fun ex a' w' ⟨hexit, hs'⟩ => ?_
      have hxp := finKP_inr hx
      subst hxp
      subst hexit
      obtain ⟨⟨ρ', g1, _, _⟩, hd, _⟩ := hs'
      exact ⟨hd, ρ', rfl, Ext.forget g1⟩

/-! tables of contracts and of texts -/
def lkF (l : List (FuncId × Fun)) (f : FuncId) : Option Fun :=
  match l with
  | [] => none
  | (g, F) :: r => match decide (g = f) with
    | true => some F
    | false => lkF r f
def lkT (l : List (FuncId × Func)) (f : FuncId) : Option Func :=
  match l with
  | [] => none
  | (g, F) :: r => match decide (g = f) with
    | true => some F
    | false => lkT r f
def lkH (l : List (FuncId × List (List Nat × Hint))) (f : FuncId) : List (List Nat × Hint) :=
  match l with
  | [] => []
  | (g, F) :: r => match decide (g = f) with
    | true => F
    | false => lkH r f
inductive GamOk (P : Program) : List (FuncId × Fun) → Prop
  | nil : GamOk P []
  | cons {f : FuncId} {F : Fun} {l : List (FuncId × Fun)} (h : DenF P f F) (t : GamOk P l) : GamOk P ((f, F) :: l)
inductive TxtOk (P : Program) : List (FuncId × Func) → Prop
  | nil : TxtOk P []
  | cons {f : FuncId} {fn : Func} {l : List (FuncId × Func)} (h : P.funcs[f]? = some fn) (t : TxtOk P l) : TxtOk P ((f, fn) :: l)
theorem GamOk.get {P : Program} : ∀ {l : List (FuncId × Fun)}, GamOk P l → ∀ f F, lkF l f = some F → DenF P f F
  | _, .nil, f, F, h => by cases h
  | _, .cons h0 t, f, F, h => by
    unfold lkF at h
    split at h
    · rename_i hd
      have hd := of_decide_eq_true hd
      subst hd
      injection h with h
      subst h
      exact h0
    · exact t.get f F h
theorem TxtOk.get {P : Program} : ∀ {l : List (FuncId × Func)}, TxtOk P l → ∀ f F, lkT l f = some F → P.funcs[f]? = some F
  | _, .nil, f, F, h => by cases h
  | _, .cons h0 t, f, F, h => by
    unfold lkT at h
    split at h
    · rename_i hd
      have hd := of_decide_eq_true hd
      subst hd
      injection h with h
      subst h
      exact h0
    · exact t.get f F h
def lkP (l : List (FuncId × FunP)) (f : FuncId) : Option FunP :=
  match l with
  | [] => none
  | (g, F) :: r => match decide (g = f) with
    | true => some F
    | false => lkP r f
inductive PsiOk (P : Program) : List (FuncId × FunP) → Prop
  | nil : PsiOk P []
  | cons {f : FuncId} {F : FunP} {l : List (FuncId × FunP)} (h : DenP P f F) (t : PsiOk P l) : PsiOk P ((f, F) :: l)
theorem PsiOk.get {P : Program} : ∀ {l : List (FuncId × FunP)}, PsiOk P l → ∀ f F, lkP l f = some F → DenP P f F
  | _, .nil, f, F, h => by cases h
  | _, .cons h0 t, f, F, h => by
    unfold lkP at h
    split at h
    · rename_i hd
      have hd := of_decide_eq_true hd
      subst hd
      injection h with h
      subst h
      exact h0
    · exact t.get f F h
/-- the function of a text, its callees by contract (gam, pan) or by text (txt) -/
def fnOf (P : Program) (N : Nat) (gam : List (FuncId × Fun)) (pan : List (FuncId × FunP)) (txt : List (FuncId × Func)) (hints : List (FuncId × List (List Nat × Hint))) (f : FuncId) (fn : Func) (pars ress : List Sig.TI) (own : List (List (Option TypeId))) : Fn pars (Option (Ress ress)) :=
  bodyFn ⟨P, N, lkF gam, lkP pan⟩ ⟨lkT txt, lkH hints⟩ f fn pars ress own
theorem den_of {P : Program} {N : Nat} {gam : List (FuncId × Fun)} {pan : List (FuncId × FunP)} {txt : List (FuncId × Func)} {hints : List (FuncId × List (List Nat × Hint))} {f : FuncId} {fn : Func} {pars ress : List Sig.TI} {own : List (List (Option TypeId))} {F : Fn pars (Option (Ress ress))}
    (hm : POk P) (hg : GamOk P gam) (hp : PsiOk P pan) (ht : TxtOk P txt) (hf : P.funcs[f]? = some fn) (hchk : (fn.body.isSome && !(fn.name == "runtime.NumGoroutine") && decide (pars.length ≤ fn.ntmps)) = true)
    (he : fnOf P N gam pan txt hints f fn pars ress own = F) : DenF P f ⟨pars, ress, own, F⟩ := by
  simp only [Bool.and_eq_true, Bool.not_eq_true', decide_eq_true_eq] at hchk
  rw [← he]
  exact bodyFn_den (cx := ⟨P, N, lkF gam, lkP pan⟩) (e2 := ⟨lkT txt, lkH hints⟩) hm hg.get hp.get ht.get hf hchk.1.1 hchk.1.2 hchk.2
/-- the function that never answers -/
def noFn {R : Type} : (ts : List Sig.TI) → Fn ts (Option R)
  | [] => none
  | _ :: ts => fun _ => noFn ts
theorem apF_noFn {R : Type} {r : R} : ∀ (ts : List Sig.TI) (cs : List (List Tree)), apF ts (noFn ts) cs ≠ some (some r)
  | [], [], h => by simp only [apF, noFn] at h; cases h
  | [], _ :: _, h => by simp only [apF] at h; cases h
  | _ :: _, [], h => by simp only [apF] at h; cases h
  | t :: ts, c :: cs, h => by
    simp only [apF] at h
    split at h
    · exact apF_noFn ts cs h
    · cases h
theorem DenF.noneOf {P : Program} {f : FuncId} {fn : Func} {pars ress : List Sig.TI} {own : List (List (Option TypeId))} {F : Fn pars (Option (Ress ress))} (hf : P.funcs[f]? = some fn) (hchk : (fn.body.isSome && !(fn.name == "runtime.NumGoroutine")) = true) (hF : F = noFn pars) : DenF P f ⟨pars, ress, own, F⟩ := by
  simp only [Bool.and_eq_true, Bool.not_eq_true'] at hchk
  subst hF
  exact ⟨⟨fn, hf, hchk.1, hchk.2⟩, fun cs r hr => absurd hr (apF_noFn pars cs)⟩
def fnOfP (P : Program) (N : Nat) (gam : List (FuncId × Fun)) (pan : List (FuncId × FunP)) (txt : List (FuncId × Func)) (hints : List (FuncId × List (List Nat × Hint))) (f : FuncId) (fn : Func) (pars ress : List Sig.TI) (own : List (List (Option TypeId))) (pt : TypeId) (pti : Sig.TI) : Fn pars (Option (Sum (Ress ress) (Sig.Car pti))) :=
  bodyFnP ⟨P, N, lkF gam, lkP pan⟩ ⟨lkT txt, lkH hints⟩ f fn pars ress own pt pti
theorem den_ofP {P : Program} {N : Nat} {gam : List (FuncId × Fun)} {pan : List (FuncId × FunP)} {txt : List (FuncId × Func)} {hints : List (FuncId × List (List Nat × Hint))} {f : FuncId} {fn : Func} {pars ress : List Sig.TI} {own : List (List (Option TypeId))} {pt : TypeId} {pti : Sig.TI} {F : Fn pars (Option (Sum (Ress ress) (Sig.Car pti)))}
    (hm : POk P) (hg : GamOk P gam) (hp : PsiOk P pan) (ht : TxtOk P txt) (hf : P.funcs[f]? = some fn) (hchk : (fn.body.isSome && !(fn.name == "runtime.NumGoroutine") && decide (pars.length ≤ fn.ntmps)) = true)
    (he : fnOfP P N gam pan txt hints f fn pars ress own pt pti = F) : DenP P f ⟨pars, ress, own, pt, pti, F⟩ := by
  simp only [Bool.and_eq_true, Bool.not_eq_true', decide_eq_true_eq] at hchk
  rw [← he]
  exact bodyFnP_den (cx := ⟨P, N, lkF gam, lkP pan⟩) (e2 := ⟨lkT txt, lkH hints⟩) hm hg.get hp.get ht.get hf hchk.1.1 hchk.1.2 hchk.2
end Go.Cm
