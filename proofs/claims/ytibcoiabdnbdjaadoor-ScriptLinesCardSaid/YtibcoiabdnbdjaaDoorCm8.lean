/- The abstract machine, third state, part 8: append. No condition. -/
import Derived.Test.YtibcoiabdnbdjaaDoorCm7
namespace Go.Cm
open Go.RowKit
set_option linter.unusedSectionVars false
variable [Sig]

theorem append_run {P : Program} {w : World} {t tx ty e : TypeId} {i : TypeInfo} {z : Value} {sz : Nat} (ht : P.underlying t = some (.slice e)) (hi : P.info? e = some i) (hz : i.zero = some z) (hsz : i.size = sz) (hzs : z.cells.size = sz)
    {F : Nat → Prop} {n m : Nat} {v x : Value} {xs news : List Value} (hown : ownsR w F e sz v n xs) (hF : ∀ b, w.heap.size ≤ b → F b) (hs : Src P i.size tx x m news w) (hbytes : (n + m) * i.bytes ≤ 140737488355328) (h63 : n + m ≤ maxLen) :
    ∃ v' w', (Builtin.append_ #[t, tx] ty #[v, x]).run P w = .ok v' w' ∧ ownsR w' F e sz v' (n + m) (xs ++ news) ∧ Below 0 w w' ∧ (∀ b, b < w.heap.size → ownB v ≠ some b → w'.heap[b]? = w.heap[b]?) ∧
      (∀ b, ownB v' = some b → w.heap.size ≤ b ∨ ownB v = some b) ∧ ((∀ a n c, v = .slice a n c → c = n) → 0 < m → Below w.heap.size w w' ∧ ∀ b, ownB v' = some b → w.heap.size ≤ b) ∧ (NZ v → NZ v') := by
  have hnl : news.length = m * sz := by rw [hs.newsLen, hsz]
  have hlen : (xs ++ news).length = (n + m) * sz := by rw [List.length_append, hown.1, hnl, Nat.add_mul]
  have hsmall : n + m ≤ 9223372036854775807 := by simp only [maxLen] at h63; omega
  have grow : ∀ (base : Option Addr) (cap : Nat), cap < n + m → (Builtin.firstCells i.size n (.slice base n cap)).run P w.drew = .ok xs.toArray w.drew →
      ∃ v' w', (Builtin.append_ #[t, tx] ty #[.slice base n cap, x]).run P w = .ok v' w' ∧ ownsR w' F e sz v' (n + m) (xs ++ news) ∧ Below w.heap.size w w' ∧ (∀ b, ownB v' = some b → w.heap.size ≤ b) ∧ NZ v' := by
    intro base cap hlt hold
    have hr := run_append_grow_src (P := P) w t tx ty e i z ht hi hz base n cap xs hold x m news hs hlt (by omega) (growslice_fits (by omega) hbytes)
    have hge := grownCap_ge w (n + m) cap e
    have hcm : grownCap w (n + m) cap e ≤ maxLen := grownCap_le_maxLen w (n + m) cap e h63
    obtain ⟨c, hc⟩ : ∃ c, grownCap w (n + m) cap e = c + 1 := ⟨grownCap w (n + m) cap e - 1, by omega⟩
    rw [hc] at hr hge hcm
    refine ⟨_, _, hr, ⟨hlen, .inr ⟨w.heap.size, c, _, rfl, hF _ (Nat.le_refl _), heap_alloc_new w.drew _, hge, hcm, ?_, ?_⟩⟩, ⟨rfl, rfl, rfl, by simp, fun k hk => Below.heap_alloc w.drew _ k hk⟩, fun b hb => ?_, .inr ⟨_, _, _, rfl⟩⟩
    · simp only [Array.size_append, List.size_toArray, size_zeroCells, hzs, hlen, ← Nat.add_mul]
      congr 1
      omega
    · simp only [Array.toList_append]
      rw [← hlen]
      exact List.take_left
    · simp only [ownB, Option.some.injEq] at hb
      omega
  obtain ⟨hxl, hown⟩ := hown
  rcases hown with ⟨base, rfl, rfl⟩ | ⟨g, cap, cur, rfl, hFg, hg, hcap, hmax, hcs, htk⟩
  · have hx : xs = [] := List.eq_nil_of_length_eq_zero (by simpa using hxl)
    subst hx
    by_cases hm : m = 0
    · subst hm
      have hn : news = [] := List.eq_nil_of_length_eq_zero (by simpa using hnl)
      subst hn
      refine ⟨.slice base 0 0, w, ?_, ⟨by simp, .inl ⟨base, rfl, rfl⟩⟩, Below.refl _ _, fun _ _ _ => rfl, fun b hb => (by cases base <;> cases hb), fun _ h => by omega, fun h => h⟩
      rcases hs.kind with ⟨e', hk⟩ | hk
      · cases base with
        | none => simp [Builtin.append_, run_underlying ht, run_underlying hk, sizeOf, typeInfo, hi, hs.len, hs.cells]
        | some a => simp [Builtin.append_, run_underlying ht, run_underlying hk, sizeOf, typeInfo, hi, hs.len, hs.cells, storeCells]
      · cases base with
        | none => simp [Builtin.append_, run_underlying ht, run_underlying hk, sizeOf, typeInfo, hi, hs.len, hs.cells]
        | some a => simp [Builtin.append_, run_underlying ht, run_underlying hk, sizeOf, typeInfo, hi, hs.len, hs.cells, storeCells]
    · obtain ⟨v', w', h1, h2, h3, h4⟩ := grow base 0 (by omega) (by
        cases base with
        | none => simp [Builtin.firstCells]
        | some a => simp [Builtin.firstCells, loadCells, loadCellsFrom])
      exact ⟨v', w', h1, h2, h3.mono (Nat.zero_le _), fun b hb _ => h3.block b hb, fun b hb => .inl (h4.1 b hb), fun _ _ => ⟨h3, h4.1⟩, fun _ => h4.2⟩
  · have holds : ∀ j u, xs[j]? = some u → w.cell? ((⟨g, 0, none⟩ : Addr).add j) = some u := fun j u hu => by
      rw [add_none, Nat.zero_add]; exact cells_take hg htk hu
    by_cases hroom : n + m ≤ cap + 1
    · have a1 : (n + m) * sz ≤ (cap + 1) * sz := Nat.mul_le_mul_right _ hroom
      have a2 : (n + m) * sz = n * sz + m * sz := Nat.add_mul _ _ _
      have hfit : n * sz + 0 + news.length ≤ cur.size := by rw [hnl, hcs]; omega
      have hst := run_storeCells_at (P := P) g (n * sz) e news 0 cur w hg hfit hs.one
      simp only [Nat.add_zero] at hst
      have hadd : (⟨g, 0, none⟩ : Addr).add (n * sz) = ⟨g, n * sz, none⟩ := by rw [add_none, Nat.zero_add]
      refine ⟨.slice (some ⟨g, 0, none⟩) (n + m) (cap + 1), w.setRow g (cur.toList.take (n * sz) ++ news ++ cur.toList.drop (n * sz + news.length)).toArray, ?_, ⟨hlen, .inr ⟨g, cap, _, rfl, hFg, setRow_heap w g cur _ e _ hg, hroom, hmax, ?_, ?_⟩⟩, below_setRow (Below.refl _ _) (Nat.zero_le _) _, fun b _ hb => setRow_other w g b _ (fun e => hb (by rw [e]; rfl)), fun b hb => .inr hb, fun hfull hm => ?_, fun _ => .inr ⟨_, _, _, rfl⟩⟩
      · have hsc := hs.cells
        rw [hsz] at hsc
        rcases hs.kind with ⟨e', hk⟩ | hk <;> simp [Builtin.append_, run_underlying ht, run_underlying hk, sizeOf, typeInfo, hi, hs.len, hsc, hroom, hsz, hadd, hst]
      · have : cur.toList.length = cur.size := Array.length_toList
        simp only [List.size_toArray, List.length_append, List.length_take, List.length_drop]
        omega
      · rw [htk, ← hlen]
        exact List.take_left
      · have := hfull _ _ _ rfl
        omega
    · obtain ⟨v', w', h1, h2, h3, h4⟩ := grow (some ⟨g, 0, none⟩) (cap + 1) (by omega) (by
        rw [← hsz] at hxl
        exact run_firstCells_some (P := P) w.drew i.size n ⟨g, 0, none⟩ n (cap + 1) xs hxl (by simpa using holds))
      exact ⟨v', w', h1, h2, h3.mono (Nat.zero_le _), fun b hb _ => h3.block b hb, fun b hb => .inl (h4.1 b hb), fun _ _ => ⟨h3, h4.1⟩, fun _ => h4.2⟩

/-! what is appended -/
/-- a string's bytes as data -/
def strL (te : Sig.TI) (s : ByteArray) : List (Sig.Car te) := s.data.toList.map fun b => Sig.dec te [.lit (.int .u8 b.toNat)]
def isU8 : List (LK Sig.TI) → Bool
  | [.int .u8] => true
  | _ => false
theorem isU8_spec {l : List (LK Sig.TI)} (h : isU8 l = true) : l = [.int .u8] := by
  unfold isU8 at h
  split at h
  · rfl
  · cases h
def isStr (P : Program) (t : TypeId) : Bool := match P.underlying t with
  | some .string => true
  | _ => false
theorem isStr_spec {P : Program} {t : TypeId} (h : isStr P t = true) : P.underlying t = some .string := by
  unfold isStr at h
  split at h
  · assumption
  · cases h
theorem strL_row (te : Sig.TI) (h : isU8 (Sig.shp te) = true) (s : ByteArray) {w : World} {ok : Nat → Prop} : RowRep w ok (byteCells s) ⟨te, strL te s⟩ ∧ (⟨te, strL te s⟩ : Row).n = s.size ∧ (⟨te, strL te s⟩ : Row).sz = 1 := by
  have hsh := isU8_spec h
  have hlen : (strL te s).length = s.size := by unfold strL; rw [List.length_map, Array.length_toList]; rfl
  have hsz : (⟨te, strL te s⟩ : Row).sz = 1 := by unfold RowOf.sz; simp only [hsh]; rfl
  have henc : ∀ z : Int, Sig.enc te (Sig.dec te [.lit (.int .u8 z)]) = [.lit (.int .u8 z)] := fun z => Sig.enc_dec _ _ (by rw [hsh]; simp [fits, fit1])
  refine ⟨⟨fun v hv => by obtain ⟨_, _, rfl⟩ := List.mem_map.1 hv; rfl, fun i j t v hi ht hv => ?_⟩, hlen, hsz⟩
  have hi' : i < s.data.toList.length := by
    have h1 : i < (strL te s).length := hi
    unfold strL at h1
    rwa [List.length_map] at h1
  have hg : (⟨te, strL te s⟩ : Row).g i = [.lit (.int .u8 (s.data.toList[i]).toNat)] := by
    unfold RowOf.g strL
    simp only [List.getD_eq_getElem?_getD, List.getElem?_map, List.getElem?_eq_getElem hi', Option.map_some, Option.getD_some]
    exact henc _
  rw [hg] at ht
  have hj : j = 0 := by
    cases j with
    | zero => rfl
    | succ j => simp at ht
  subst hj
  simp at ht
  subst ht
  rw [hsz] at hv
  simp only [Nat.mul_one, Nat.add_zero, byteCells, List.getElem?_map, List.getElem?_eq_getElem hi', Option.map_some, Option.some.injEq] at hv
  subst hv
  exact .lit _

def srcOf1 (te : Sig.TI) (bx : Bxs) (y : AV) : Option (Row × List Nat) :=
  match y with
  | .sl q => some (q, [])
  | .e0 => some (⟨te, []⟩, [])
  | .row k => match rowOf (bget bx k) with
    | some q => some (q, [k])
    | none => none
  | _ => none

/-- the cells of the row that is appended -/
theorem src1_sound {P : Program} {e t : TypeId} {te : Sig.TI} {bx : Bxs} {y : AV} {q : Row} {ks : List Nat} {sz : Nat} (ht : P.underlying t = some (.slice e)) (h : srcOf1 te bx y = some (q, ks)) (hsz : q.sz = sz) (hpos : 0 < sz)
    {w : World} {ρ : Env} {bx' : Nat → Box} (hs : SimB w ρ bx') (hag : ∀ k, k ∈ ks → bx' k = bget bx k) {v : Value} (hr : Rep w ρ bx' v y) :
    ∃ news, Src P sz t v q.n news w ∧ RowRep w (okS ρ bx') news q := by
  subst hsz
  have hempty : ∀ (a : Option Addr) (c : Nat) (q : Row), q.n = 0 → ∃ news, Src P q.sz t (.slice a 0 c) q.n news w ∧ RowRep w (okS ρ bx') news q := fun a c q hq => by
    rw [hq]
    refine ⟨[], ?_, ⟨fun v hv => by simp at hv, fun i j t v hi => by omega⟩⟩
    cases a with
    | none => exact Src.ofNil w ht c
    | some ad => exact Src.ofSlice w ht ad 0 c [] (by simp) (fun j u hu => by simp at hu) (fun u hu => by simp at hu)
  unfold srcOf1 at h
  split at h
  · rename_i q'
    simp only [Option.some.injEq, Prod.mk.injEq] at h
    obtain ⟨rfl, rfl⟩ := h
    have hsl := hr.inv_sl
    cases hsl with
    | sl A len cap _ f hlen hcap hmax hone hcc hrr =>
      subst hlen
      by_cases hn : q'.n = 0
      · rw [show Value.slice A q'.n cap = .slice A 0 cap by rw [hn]]
        exact hempty A cap q' hn
      · obtain ⟨ad, ha, hsp, _, _⟩ := hcc 0 0 (by omega) hpos
        subst ha
        obtain ⟨b, oo, sp⟩ := ad
        simp only at hsp
        subst hsp
        have hdm : ∀ idx, idx < q'.n * q'.sz → idx / q'.sz < q'.n ∧ idx % q'.sz < q'.sz := fun idx hi => ⟨Nat.div_lt_of_lt_mul (by rw [Nat.mul_comm]; exact hi), Nat.mod_lt _ hpos⟩
        have hget : ∀ idx v, ((List.range (q'.n * q'.sz)).map fun idx => f (idx / q'.sz) (idx % q'.sz))[idx]? = some v → idx < q'.n * q'.sz ∧ v = f (idx / q'.sz) (idx % q'.sz) := fun idx v hv => by
          have hi : idx < q'.n * q'.sz := by have := (List.getElem?_eq_some_iff.1 hv).1; simpa using this
          rw [List.getElem?_map, List.getElem?_range hi] at hv
          simp at hv
          exact ⟨hi, hv.symm⟩
        have h1 : ∀ u, u ∈ (List.range (q'.n * q'.sz)).map (fun idx => f (idx / q'.sz) (idx % q'.sz)) → u.oneCell' = true := fun u hu => by
          obtain ⟨idx, hidx⟩ := List.mem_iff_getElem?.1 hu
          obtain ⟨hi, rfl⟩ := hget idx u hidx
          exact hone _ _ (hdm idx hi).1 (hdm idx hi).2
        refine ⟨(List.range (q'.n * q'.sz)).map fun idx => f (idx / q'.sz) (idx % q'.sz), Src.ofSlice w ht ⟨b, oo, none⟩ q'.n cap _ (by simp) (fun j u hu => ?_) h1, ⟨h1, fun i j t v hi hj hv => ?_⟩⟩
        · obtain ⟨hi, rfl⟩ := hget j u hu
          obtain ⟨ad, ha, _, _, hcell⟩ := hcc _ _ (hdm j hi).1 (hdm j hi).2
          injection ha with ha
          subst ha
          rw [add_none]
          simp only at hcell
          rw [Nat.mul_comm (j / q'.sz) q'.sz, Nat.div_add_mod] at hcell
          exact hcell
        · obtain ⟨_, rfl⟩ := hget _ v hv
          have hj' : j < q'.sz := by rw [← q'.g_len i]; exact (List.getElem?_eq_some_iff.1 hj).1
          rw [show (i * q'.sz + j) / q'.sz = i by rw [Nat.mul_comm, Nat.mul_add_div hpos, Nat.div_eq_of_lt hj', Nat.add_zero], show (i * q'.sz + j) % q'.sz = j by rw [Nat.mul_comm, Nat.mul_add_mod, Nat.mod_eq_of_lt hj']]
          exact hrr i j t hi hj
  · simp only [Option.some.injEq, Prod.mk.injEq] at h
    obtain ⟨rfl, rfl⟩ := h
    obtain ⟨a, rfl⟩ := hr.inv_e0
    exact hempty a 0 _ rfl
  · rename_i k
    split at h
    · rename_i q' hk
      simp only [Option.some.injEq, Prod.mk.injEq] at h
      obtain ⟨rfl, rfl⟩ := h
      have hb := hs.box k
      rw [hag k (by simp)] at hb
      obtain ⟨e', xs, hown, hrep, _⟩ := hb.rowOf hk
      rw [hr.inv_row.2]
      rcases hown.2 with ⟨a, e1, e2⟩ | ⟨g, cap, cur, e1, _, hh, _, _, _, htk⟩
      · rw [e1]; exact hempty a 0 q' e2
      · rw [e1]
        exact ⟨xs, Src.ofSlice w ht ⟨g, 0, none⟩ q'.n (cap + 1) xs hown.1 (fun j u hu => by rw [add_none, Nat.zero_add]; exact cells_take hh htk hu) hrep.one, hrep⟩
    · cases h
  · cases h

def srcOf (P : Program) (t t' : TypeId) (te : Sig.TI) (bx : Bxs) (y : AV) : Option (Row × List Nat) :=
  match y with
  | .lit (.string s) => match isStr P t' && isU8 (Sig.shp te) with
    | true => some (⟨te, strL te s⟩, [])
    | false => none
  | _ => match decide (t = t') with
    | true => srcOf1 te bx y
    | false => none
theorem src_sound {P : Program} {e t t' : TypeId} {te : Sig.TI} {bx : Bxs} {y : AV} {q : Row} {ks : List Nat} {sz : Nat} (ht : P.underlying t = some (.slice e)) (h : srcOf P t t' te bx y = some (q, ks)) (hsz : q.sz = sz) (hpos : 0 < sz)
    {w : World} {ρ : Env} {bx' : Nat → Box} (hs : SimB w ρ bx') (hag : ∀ k, k ∈ ks → bx' k = bget bx k) {v : Value} (hr : Rep w ρ bx' v y) :
    ∃ news, Src P sz t' v q.n news w ∧ RowRep w (okS ρ bx') news q := by
  unfold srcOf at h
  split at h
  · rename_i s
    split at h
    · rename_i hc
      simp only [Bool.and_eq_true] at hc
      simp only [Option.some.injEq, Prod.mk.injEq] at h
      obtain ⟨rfl, rfl⟩ := h
      obtain ⟨h1, h2, h3⟩ := strL_row (w := w) (ok := okS ρ bx') te hc.2 s
      rw [hr.inv_lit, h2, ← hsz, h3]
      exact ⟨_, Src.ofString w (isStr_spec hc.1) s, h1⟩
    · cases h
  · split at h
    · rename_i he
      have he := of_decide_eq_true he
      subst he
      exact src1_sound ht h hsz hpos hs hag hr
    · cases h

/-- one row behind another of its type -/
def RowOf.app (q r : Row) (h : r.e = q.e) : Row := ⟨q.e, q.l ++ (h ▸ r.l)⟩
theorem RowOf.app_n (q r : Row) (h : r.e = q.e) : (q.app r h).n = q.n + r.n := by
  obtain ⟨e, l⟩ := q
  obtain ⟨e', l'⟩ := r
  simp only at h
  subst h
  simp [RowOf.app, RowOf.n]
theorem RowOf.app_sz (q r : Row) (h : r.e = q.e) : (q.app r h).sz = q.sz := rfl
theorem RowOf.app_g (q r : Row) (h : r.e = q.e) (i : Nat) (hi : i < q.n + r.n) : (q.app r h).g i = if i < q.n then q.g i else r.g (i - q.n) := by
  obtain ⟨e, l⟩ := q
  obtain ⟨e', l'⟩ := r
  simp only at h
  subst h
  show Sig.enc e' (((l ++ l')[i]?).getD (Sig.dft e')) = if i < l.length then Sig.enc e' ((l[i]?).getD (Sig.dft e')) else Sig.enc e' ((l'[i - l.length]?).getD (Sig.dft e'))
  have key : (l ++ l')[i]? = if i < l.length then l[i]? else l'[i - l.length]? := List.getElem?_append
  rw [key]
  by_cases h : i < l.length
  · rw [if_pos h, if_pos h]
  · rw [if_neg h, if_neg h]

theorem RowRep.app {w : World} {ok : Nat → Prop} {xs ys : List Value} {q r : Row} (h : RowRep w ok xs q) (h' : RowRep w ok ys r) (he : r.e = q.e) (hl : xs.length = q.n * q.sz) : RowRep w ok (xs ++ ys) (q.app r he) := by
  have hz : r.sz = q.sz := by unfold RowOf.sz; rw [he]
  refine ⟨fun v hv => ?_, fun i j t v hi ht hv => ?_⟩
  · rcases List.mem_append.1 hv with h1 | h1
    · exact h.one v h1
    · exact h'.one v h1
  · rw [RowOf.app_n] at hi
    rw [RowOf.app_g q r he i hi] at ht
    rw [RowOf.app_sz] at hv
    split at ht
    · rename_i h1
      have hj : j < q.sz := by rw [← q.g_len i]; exact (List.getElem?_eq_some_iff.1 ht).1
      have a1 : (i + 1) * q.sz ≤ q.n * q.sz := Nat.mul_le_mul_right _ h1
      rw [Nat.add_mul] at a1
      rw [List.getElem?_append_left (by omega)] at hv
      exact h.rep i j t v h1 ht hv
    · rename_i h1
      have a1 : q.n * q.sz ≤ i * q.sz := Nat.mul_le_mul_right _ (by omega)
      rw [List.getElem?_append_right (by omega), hl, show i * q.sz + j - q.n * q.sz = (i - q.n) * q.sz + j by rw [Nat.sub_mul]; omega, ← hz] at hv
      exact h'.rep _ j t v (by omega) ht hv

def isFull (bx : Bxs) (y : AV) : Bool :=
  match y with
  | .row k => match bget bx k with
    | .row full _ _ => full
    | _ => false
  | _ => false
def bytesT (P : Program) (e : TypeId) : Nat := match P.info? e with | some i => i.bytes | none => 0
def appendF (P : Program) (t t' : TypeId) (x y : AV) (bx : Bxs) (n0 : Nat) : Res :=
  match slT P t with
  | none => none
  | some e =>
    match tyI P e, zeroOf P e, Sig.ofId e with
    | some (sz, _), some z, some te =>
      match srcOf P t t' te bx y with
      | none => none
      | some (q2, ks) =>
        if z.cells.size = sz ∧ 0 < sz ∧ 0 < bytesT P e ∧ q2.sz = sz then
          match x with
          | .e0 => some (some (decide ((0 + q2.n) * bytesT P e ≤ 140737488355328)), .row n0, [(n0, .row false e q2)], ks)
          | .row k => match bget bx k with
            | .row full e' q =>
              if h : q2.e = q.e then
                if e' = e ∧ k ∉ ks then
                  match full && isFull bx y with
                  | true => some (some (decide ((q.n + q2.n) * bytesT P e ≤ 140737488355328) && decide (0 < q2.n)), .row n0, [(n0, .row false e (q.app q2 h))], k :: ks)
                  | false => some (some (decide ((q.n + q2.n) * bytesT P e ≤ 140737488355328)), .row n0, [(k, .gone), (n0, .row false e (q.app q2 h))], k :: ks)
                else none
              else none
            | _ => none
          | .rowz k => match bget bx k with
            | .row full e' q =>
              if h : q2.e = q.e then
                if e' = e ∧ k ∉ ks then some (some (decide ((q.n + q2.n) * bytesT P e ≤ 140737488355328)), .rowz n0, [(k, .gone), (n0, .row false e (q.app q2 h))], k :: ks)
                else none
              else none
            | _ => none
          | _ => none
        else none
    | _, _, _ => none

theorem exec_append {P : Program} {o : Oper} {t t' : Nat} {x y : Operand} (ho : o.op = .call { callee := .builtin .append, args := #[x, y], argTypes := #[t, t'] }) {a : Act} {w w' : World} {v : Value}
    (h : (Builtin.append_ #[t, t'] o.type #[a.eval x, a.eval y]).run P w = .ok v w') : (execOp a.eval o).run P w = .ok (.value v) w' := by
  simp [execOp, ho, resolve, invoke, builtin, h]

theorem append_sound {P : Program} {o : Oper} {ev : Operand → AV} {bx : Bxs} {c : Option Bool} {r : AV} {e : List (Nat × Box)} {rd : List Nat} {t t' n0 : Nat} {x y : Operand} (ho : o.op = .call { callee := .builtin .append, args := #[x, y], argTypes := #[t, t'] })
    (h : appendF P t t' (ev x) (ev y) bx n0 = some (c, r, e, rd)) (hc : CondP c) (hn0 : n0 ∉ rd) : LocalOk P o ev bx r e rd := by
  unfold appendF at h
  split at h
  · cases h
  · rename_i et het
    have hu := slT_spec het
    split at h
    · rename_i sz ag z te hty hz hte
      split at h
      · cases h
      · rename_i q2 ks hsrc
        split at h
        · rename_i hcond
          obtain ⟨hzs, hpos, hby, hq2⟩ := hcond
          obtain ⟨i, d, hi, _, hsz, _⟩ := tyI_spec hty
          have hz' : i.zero = some z := by
            unfold zeroOf at hz
            rw [hi] at hz
            exact hz
          have hbt : bytesT P et = i.bytes := by unfold bytesT; rw [hi]
          rw [hbt] at h hby
          have hmax : ∀ n, n * i.bytes ≤ 140737488355328 → n ≤ maxLen := fun n hn => by
            have : n * 1 ≤ n * i.bytes := Nat.mul_le_mul_left _ hby
            simp only [maxLen]
            omega
          split at h
          · rename_i hx
            simp only [Option.some.injEq, Prod.mk.injEq] at h
            obtain ⟨rfl, rfl, rfl, rfl⟩ := h
            have hc : (0 + q2.n) * i.bytes ≤ 140737488355328 := of_decide_eq_true hc
            refine LocalOk.run fun w ρ bx' a hag hnew hs hr => ?_
            have hxr := hr x (by rw [ho]; simp [Op.operands, Call.operands])
            have hyr := hr y (by rw [ho]; simp [Op.operands, Call.operands])
            rw [hx] at hxr
            obtain ⟨A, hv⟩ := hxr.inv_e0
            have hnil : bx' n0 = .nil := (hnew n0 (.row false et q2) (by simp)).resolve_left hn0
            obtain ⟨news, hs2, hrr⟩ := src_sound hu hsrc hq2 hpos hs hag hyr
            obtain ⟨v', w', k1, k2, k3, k4, k5, k6, k8⟩ := append_run (ty := o.type) hu hi hz' hsz hzs (F := ρ.A) (n := 0) (v := .slice A 0 0) (xs := []) ⟨by simp, .inl ⟨A, rfl, rfl⟩⟩ hs.base (hsz ▸ hs2) hc (hmax _ hc)
            have hb : Below w.heap.size w w' := ⟨k3.os, k3.tape, k3.output, k3.size, fun b hb => k4 b hb (by cases A <;> simp [ownB])⟩
            rw [Nat.zero_add, ← hq2] at k2
            obtain ⟨ρ', he2, hs3, hhd⟩ := hs.newRow hnil hb (full := false) (e := et) (q := q2) (v := v') (xs := [] ++ news) k2 (fun b hb => by
              rcases k5 b hb with h1 | h1
              · exact h1
              · cases A <;> cases h1) hrr (fun h => by cases h)
            have hrep := Rep.mkRow (k := n0) (full := false) (e := et) (q := q2) (by show setBox _ _ _ n0 = _; rw [bget_setBox, if_pos rfl]) hs3
            rw [hhd] at hrep
            exact ⟨.value v', v', w', ρ', exec_append ho (by rw [hv]; exact k1), .inl rfl, he2, hs3, hrep⟩
          · rename_i k hx
            split at h
            · rename_i full e' q hk
              split at h
              · rename_i hqe
                have hqs : q.sz = sz := by rw [← hq2]; unfold RowOf.sz; rw [hqe]
                split at h
                · rename_i hcond
                  obtain ⟨rfl, hkk⟩ := hcond
                  split at h
                  · rename_i hff
                    simp only [Option.some.injEq, Prod.mk.injEq] at h
                    obtain ⟨rfl, rfl, rfl, rfl⟩ := h
                    obtain ⟨hc, hc2⟩ := cond2 hc
                    simp only [Bool.and_eq_true] at hff
                    refine LocalOk.run fun w ρ bx' a hag hnew hs hr => ?_
                    have hxr := hr x (by rw [ho]; simp [Op.operands, Call.operands])
                    have hyr := hr y (by rw [ho]; simp [Op.operands, Call.operands])
                    rw [hx] at hxr
                    obtain ⟨_, hv⟩ := hxr.inv_row
                    have hnil : bx' n0 = .nil := (hnew n0 (.row false e' (q.app q2 hqe)) (by simp)).resolve_left hn0
                    obtain ⟨news, hs2, hrr⟩ := src_sound hu hsrc hq2 hpos hs (fun j hj => hag j (by simp [hj])) hyr
                    have hbk := hs.box k
                    rw [hag k (by simp), hk] at hbk
                    obtain ⟨xs, hown, hrow, hβ, hfull⟩ := hbk
                    obtain ⟨v', w', k1, k2, k3, k4, k5, k6, k8⟩ := append_run (ty := o.type) hu hi hz' hsz hzs (hqs ▸ hown) hs.base (hsz ▸ hs2) hc (hmax _ hc)
                    obtain ⟨hb, k7⟩ := k6 (hfull hff.1) hc2
                    rw [← hqs, ← RowOf.app_n q q2 hqe, ← RowOf.app_sz q q2 hqe] at k2
                    obtain ⟨ρ', he2, hs3, hhd⟩ := hs.newRow hnil hb (full := false) (e := e') (q := q.app q2 hqe) k2 k7 (hrow.app hrr hqe hown.1) (fun h => by cases h)
                    have hrep := Rep.mkRow (k := n0) (full := false) (e := e') (q := q.app q2 hqe) (by show setBox _ _ _ n0 = _; rw [bget_setBox, if_pos rfl]) hs3
                    rw [hhd] at hrep
                    exact ⟨.value v', v', w', ρ', exec_append ho (by rw [hv]; exact k1), .inl rfl, he2, hs3, hrep⟩
                  · simp only [Option.some.injEq, Prod.mk.injEq] at h
                    obtain ⟨rfl, rfl, rfl, rfl⟩ := h
                    have hc : (q.n + q2.n) * i.bytes ≤ 140737488355328 := of_decide_eq_true hc
                    refine LocalOk.run fun w ρ bx' a hag hnew hs hr => ?_
                    have hxr := hr x (by rw [ho]; simp [Op.operands, Call.operands])
                    have hyr := hr y (by rw [ho]; simp [Op.operands, Call.operands])
                    rw [hx] at hxr
                    obtain ⟨_, hv⟩ := hxr.inv_row
                    have hnil : bx' n0 = .nil := (hnew n0 (.row false e' (q.app q2 hqe)) (by simp)).resolve_left hn0
                    obtain ⟨news, hs2, hrr⟩ := src_sound hu hsrc hq2 hpos hs (fun j hj => hag j (by simp [hj])) hyr
                    have hk' : bx' k = .row full e' q := by rw [hag k (by simp), hk]
                    have hbk := hs.box k
                    rw [hk'] at hbk
                    obtain ⟨xs, hown, hrow, hβ, hfull⟩ := hbk
                    obtain ⟨v', w', k1, k2, k3, k4, k5, k6, k8⟩ := append_run (ty := o.type) hu hi hz' hsz hzs (hqs ▸ hown) hs.base (hsz ▸ hs2) hc (hmax _ hc)
                    rw [← hqs, ← RowOf.app_n q q2 hqe, ← RowOf.app_sz q q2 hqe] at k2
                    obtain ⟨ρ', he2, hs3, hhd⟩ := hs.grow hk' hnil k3 k4 (q := q.app q2 hqe) k2 k5 (hrow.app hrr hqe hown.1)
                    have hrep := Rep.mkRow (k := n0) (full := false) (e := e') (q := q.app q2 hqe) (by show setBox _ _ _ n0 = _; rw [bget_setBox, if_pos rfl]) hs3
                    rw [hhd] at hrep
                    exact ⟨.value v', v', w', ρ', exec_append ho (by rw [hv]; exact k1), .inl rfl, he2, hs3, hrep⟩
                · cases h
              · cases h
            · cases h
          · rename_i k hx
            split at h
            · rename_i full e' q hk
              split at h
              · rename_i hqe
                have hqs : q.sz = sz := by rw [← hq2]; unfold RowOf.sz; rw [hqe]
                split at h
                · rename_i hcond
                  obtain ⟨rfl, hkk⟩ := hcond
                  simp only [Option.some.injEq, Prod.mk.injEq] at h
                  obtain ⟨rfl, rfl, rfl, rfl⟩ := h
                  have hc : (q.n + q2.n) * i.bytes ≤ 140737488355328 := of_decide_eq_true hc
                  refine LocalOk.run fun w ρ bx' a hag hnew hs hr => ?_
                  have hxr := hr x (by rw [ho]; simp [Op.operands, Call.operands])
                  have hyr := hr y (by rw [ho]; simp [Op.operands, Call.operands])
                  rw [hx] at hxr
                  obtain ⟨hnz, hxr⟩ := hxr.inv_rowz
                  obtain ⟨_, hv⟩ := hxr.inv_row
                  have hnil : bx' n0 = .nil := (hnew n0 (.row false e' (q.app q2 hqe)) (by simp)).resolve_left hn0
                  obtain ⟨news, hs2, hrr⟩ := src_sound hu hsrc hq2 hpos hs (fun j hj => hag j (by simp [hj])) hyr
                  have hk' : bx' k = .row full e' q := by rw [hag k (by simp), hk]
                  have hbk := hs.box k
                  rw [hk'] at hbk
                  obtain ⟨xs, hown, hrow, hβ, hfull⟩ := hbk
                  obtain ⟨v', w', k1, k2, k3, k4, k5, k6, k8⟩ := append_run (ty := o.type) hu hi hz' hsz hzs (hqs ▸ hown) hs.base (hsz ▸ hs2) hc (hmax _ hc)
                  rw [← hqs, ← RowOf.app_n q q2 hqe, ← RowOf.app_sz q q2 hqe] at k2
                  obtain ⟨ρ', he2, hs3, hhd⟩ := hs.grow hk' hnil k3 k4 (q := q.app q2 hqe) k2 k5 (hrow.app hrr hqe hown.1)
                  have hrep := Rep.mkRow (k := n0) (full := false) (e := e') (q := q.app q2 hqe) (by show setBox _ _ _ n0 = _; rw [bget_setBox, if_pos rfl]) hs3
                  rw [hhd] at hrep
                  exact ⟨.value v', v', w', ρ', exec_append ho (by rw [hv]; exact k1), .inl rfl, he2, hs3, hrep.mkRowz (k8 (by rw [← hv]; exact hnz))⟩
                · cases h
              · cases h
            · cases h
          · cases h
        · cases h
    · cases h
end Go.Cm
