/- Values of a type as flat lists of cells: a type's cells are told by a plain list of kinds. No condition. -/
import Derived.Test.YtjlhngfmghipoaaAmd
namespace Go.Am
open Go

inductive CS where
  | b
  | i (k : IntKind)
  | s
  | sl (e : TypeId)

def CellIs (P : Program) : CS → Tree → Prop
  | .b, t => ∃ x, t = .lit (.bool x)
  | .i k, t => ∃ z, t = .lit (.int k z) ∧ (Lit.int k z).wf = true
  | .s, t => ∃ x : ByteArray, t = .lit (.string x) ∧ x.size ≤ maxLen
  | .sl e, t => ∃ L, t = .sl L ∧ L.length ≤ maxLen ∧ ∀ es, es ∈ L → TyT P e es
def CellsAre (P : Program) : List CS → List Tree → Prop
  | [], ts => ts = []
  | c :: cs, ts => ∃ t ts', ts = t :: ts' ∧ CellIs P c t ∧ CellsAre P cs ts'
def flatFs (g : TypeId → Option (List CS)) (P : Program) : List Field → Nat → Option (List CS)
  | [], _ => some []
  | f :: fs, off =>
    match g f.type with
    | none => none
    | some c =>
      match f.offset == off && c.length == P.cellsOf f.type, flatFs g P fs (off + c.length) with
      | true, some r => some (c ++ r)
      | _, _ => none
def flatT (P : Program) : Nat → TypeId → Option (List CS)
  | 0, _ => none
  | n + 1, t =>
    match P.underlying t with
    | some .bool => some [.b]
    | some (.int k) => some [.i k]
    | some .string => some [.s]
    | some (.slice e) => some [.sl e]
    | some (.struct fs) =>
      match flatFs (flatT P n) P fs.toList 0 with
      | some cs => if cs.length == P.cellsOf t then some cs else none
      | none => none
    | some (.array m e) =>
      match flatT P n e with
      | some c => if c.length == P.cellsOf e && m * c.length == P.cellsOf t then some (List.replicate m c).flatten else none
      | none => none
    | _ => none

theorem CellsAre.len {P : Program} : ∀ {cs : List CS} {ts : List Tree}, CellsAre P cs ts → ts.length = cs.length
  | [], _, h => by rw [show _ = _ from h]; rfl
  | c :: cs, _, ⟨t, ts', e, _, h⟩ => by subst e; simp [CellsAre.len h]
theorem CellsAre.app {P : Program} : ∀ {cs : List CS} {ts : List Tree} {ds : List CS} {us : List Tree}, CellsAre P cs ts → CellsAre P ds us → CellsAre P (cs ++ ds) (ts ++ us)
  | [], _, _, _, h, h2 => by rw [show _ = _ from h]; exact h2
  | c :: cs, _, _, _, ⟨t, ts', e, h1, h⟩, h2 => by subst e; exact ⟨t, ts' ++ _, rfl, h1, h.app h2⟩
theorem take_split {α : Type} (l : List α) (a b : Nat) : l.take (a + b) = l.take a ++ (l.drop a).take b := by
  rw [List.take_add]

theorem flatFs_ok {P : Program} {g : TypeId → Option (List CS)} {ts : List Tree} (hg : ∀ t us c, TyT P t us → g t = some c → CellsAre P c us) :
    ∀ (fs : List Field) (off : Nat) (cs : List CS), (∀ f, f ∈ fs → TyT P f.type ((ts.drop f.offset).take (P.cellsOf f.type))) → flatFs g P fs off = some cs → CellsAre P cs ((ts.drop off).take cs.length)
  | [], off, cs, _, e => by
    simp [flatFs] at e
    subst e
    simp [CellsAre]
  | f :: fs, off, cs, h, e => by
    simp only [flatFs] at e
    cases h1 : g f.type with
    | none => rw [h1] at e; cases e
    | some c =>
      simp only [h1] at e
      cases h2 : f.offset == off && c.length == P.cellsOf f.type with
      | false => rw [h2] at e; cases e
      | true =>
        rw [h2] at e
        cases h3 : flatFs g P fs (off + c.length) with
        | none => rw [h3] at e; cases e
        | some r =>
          rw [h3] at e
          cases e
          simp at h2
          have k1 := hg _ _ _ (h f (List.mem_cons_self ..)) h1
          have k2 := flatFs_ok hg fs (off + c.length) r (fun f hf => h f (List.mem_cons_of_mem _ hf)) h3
          rw [List.length_append, take_split, List.drop_drop]
          rw [h2.1, ← h2.2] at k1
          exact k1.app k2

theorem flat_rep {P : Program} {ts : List Tree} {e : TypeId} {c : List CS} (hg : ∀ us, TyT P e us → CellsAre P c us) (hc : c.length = P.cellsOf e) :
    ∀ (m k : Nat), (∀ i, k ≤ i → i < k + m → TyT P e ((ts.drop (i * P.cellsOf e)).take (P.cellsOf e))) → CellsAre P (List.replicate m c).flatten ((ts.drop (k * P.cellsOf e)).take (m * P.cellsOf e))
  | 0, k, _ => by simp [CellsAre]
  | m + 1, k, h => by
    have k1 := hg _ (h k (Nat.le_refl _) (by omega))
    have k2 := flat_rep hg hc m (k + 1) (fun i h1 h2 => h i (by omega) (by omega))
    rw [List.replicate_succ, List.flatten_cons, Nat.succ_mul, Nat.add_comm, take_split, List.drop_drop]
    rw [Nat.succ_mul] at k2
    exact k1.app k2

theorem flatT_ok {P : Program} : ∀ (n : Nat) (t : TypeId) (ts : List Tree) (cs : List CS), TyT P t ts → flatT P n t = some cs → CellsAre P cs ts
  | 0, _, _, _, _, e => by cases e
  | n + 1, t, ts, cs, h, e => by
    unfold flatT at e
    cases hu : P.underlying t with
    | none => rw [hu] at e; cases e
    | some d =>
      rw [hu] at e
      cases d with
      | bool => cases e; obtain ⟨b, rfl⟩ := h.inv_bool hu; exact ⟨_, _, rfl, ⟨b, rfl⟩, rfl⟩
      | int k => cases e; obtain ⟨z, rfl, hw⟩ := h.inv_int hu; exact ⟨_, _, rfl, ⟨z, rfl, hw⟩, rfl⟩
      | string => cases e; obtain ⟨s, rfl, hw⟩ := h.inv_str hu; exact ⟨_, _, rfl, ⟨s, rfl, hw⟩, rfl⟩
      | slice el => cases e; obtain ⟨L, rfl, h1, h2⟩ := h.inv_slice hu; exact ⟨_, _, rfl, ⟨L, rfl, h1, h2⟩, rfl⟩
      | struct fs =>
        obtain ⟨h1, h2⟩ := h.inv_struct hu
        simp only at e
        cases h3 : flatFs (flatT P n) P fs.toList 0 with
        | none => rw [h3] at e; cases e
        | some c =>
          rw [h3] at e
          simp only at e
          split at e
          · rename_i hl
            cases e
            have k := flatFs_ok (ts := ts) (fun t us c a b => flatT_ok n t us c a b) fs.toList 0 cs (fun f hf => by
              obtain ⟨i, hi⟩ := List.mem_iff_getElem?.1 hf
              exact h2 i f (by simpa using hi)) h3
            simp at hl
            rw [List.drop_zero, hl, ← h1, List.take_length] at k
            exact k
          · cases e
      | array m el =>
        obtain ⟨h1, h2⟩ := h.inv_array hu
        simp only at e
        cases h3 : flatT P n el with
        | none => rw [h3] at e; cases e
        | some c =>
          rw [h3] at e
          simp only at e
          split at e
          · rename_i hl
            cases e
            simp at hl
            have k := flat_rep (ts := ts) (fun us a => flatT_ok n el us c a h3) hl.1 m 0 (fun i _ hi => h2 i (by omega))
            rw [Nat.zero_mul, List.drop_zero, ← hl.1, hl.2, ← h1, List.take_length] at k
            exact k
          · cases e
      | _ => cases e

theorem TyV.agg {P : Program} {t : TypeId} {av : AV} (h : TyV P t av) {n : Nat} {cs : List CS} (ha : aggB P t = true) (hf : flatT P n t = some cs) : ∃ ts, CellsAre P cs ts ∧ av = .agg (ts.map (ofTree false)) := by
  obtain ⟨ts, h1, h2⟩ := h
  rcases h2 with ⟨_, rfl⟩ | ⟨h2, _⟩
  · exact ⟨ts, flatT_ok n t ts cs h1 hf, rfl⟩
  · rw [ha] at h2; cases h2
theorem TyV.one {P : Program} {t : TypeId} {av : AV} (h : TyV P t av) {n : Nat} {c : CS} (ha : aggB P t = false) (hf : flatT P n t = some [c]) : ∃ x, CellIs P c x ∧ av = ofTree false x := by
  obtain ⟨ts, h1, h2⟩ := h
  rcases h2 with ⟨h2, _⟩ | ⟨_, x, rfl, rfl⟩
  · rw [ha] at h2; cases h2
  · have := flatT_ok n t _ _ h1 hf
    obtain ⟨y, ys, e, h3, h4⟩ := this
    cases e
    exact ⟨x, h3, rfl⟩
/-- every member of a list comes from a function -/
theorem list_of {α β : Type} {g : β → α} : ∀ (L : List α), (∀ x, x ∈ L → ∃ y, x = g y) → ∃ M : List β, L = M.map g
  | [], _ => ⟨[], rfl⟩
  | x :: L, h => by
    obtain ⟨y, rfl⟩ := h x (List.mem_cons_self ..)
    obtain ⟨M, rfl⟩ := list_of L (fun x hx => h x (List.mem_cons_of_mem _ hx))
    exact ⟨y :: M, rfl⟩
end Go.Am
