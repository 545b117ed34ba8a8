/- What the library's functions do that this program calls: the shelf's contracts at this dump (their laying in plain words), and as plain functions. No condition. -/
import Derived.Test.YtibcoiabdnbdjaaDoorHnp
import Derived.Test.YtibcoiabdnbdjaaDoorCmz
import Derived.Test.YtibcoiabdnbdjaaDoorCmv
import Derived.Shelf.Strings.Builder1
import Derived.Shelf.LaysM
import Derived.Shelf.Strconv.Itoa3
import Derived.Shelf.Strings.Search2
import Derived.Lib.AppendIntMem
namespace Go.Proofs
open Go.Shelf
def Tryd.laysM171_ren : Go.Shelf.Ren := ⟨fun | 171 => 22 | 243 => 37 | 246 => 44 | 283 => 51 | 284 => 52 | 285 => 53 | 286 => 54 | 129 => 59 | 317 => 58 | 318 => 60 | 319 => 61 | 320 => 62 | 337 => 63 | 338 => 64 | n => n, fun | 3 => 3 | 9 => 9 | 2 => 2 | 4 => 4 | 171 => 80 | 0 => 0 | 53 => 81 | 37 => 50 | 5 => 5 | 173 => 84 | 212 => 90 | 51 => 86 | 20 => 20 | 213 => 91 | 46 => 79 | 232 => 94 | 233 => 95 | n => n, fun | 17 => 2 | 18 => 3 | 19 => 4 | n => n⟩
theorem Tryd.laysM171 : Go.Proofs.LaysM.n171 Tryd.prog Tryd.laysM171_ren := {
  mixed := by kernel_rfl
  f129 := Tryd.func59.trans (congrArg some (by kernel_rfl))
  f171 := Tryd.func22.trans (congrArg some (by kernel_rfl))
  f243 := Tryd.func37.trans (congrArg some (by kernel_rfl))
  f246 := Tryd.func44.trans (congrArg some (by kernel_rfl))
  f283 := Tryd.func51.trans (congrArg some (by kernel_rfl))
  f284 := Tryd.func52.trans (congrArg some (by kernel_rfl))
  f285 := Tryd.func53.trans (congrArg some (by kernel_rfl))
  f286 := Tryd.func54.trans (congrArg some (by kernel_rfl))
  f317 := Tryd.func58.trans (congrArg some (by kernel_rfl))
  f318 := Tryd.func60.trans (congrArg some (by kernel_rfl))
  f319 := Tryd.func61.trans (congrArg some (by kernel_rfl))
  f320 := Tryd.func62.trans (congrArg some (by kernel_rfl))
  f337 := Tryd.func63.trans (congrArg some (by kernel_rfl))
  f338 := Tryd.func64.trans (congrArg some (by kernel_rfl))
  t0 := Tryd.underlying0
  a0 := Tryd.isAgg0
  z0 := Tryd.sizeOf0
  v0 := Tryd.zeroValue0
  t2 := Tryd.underlying2
  a2 := Tryd.isAgg2
  z2 := Tryd.sizeOf2
  v2 := Tryd.zeroValue2
  t3 := Tryd.underlying3
  a3 := Tryd.isAgg3
  z3 := Tryd.sizeOf3
  v3 := Tryd.zeroValue3
  t4 := Tryd.underlying4
  a4 := Tryd.isAgg4
  z4 := Tryd.sizeOf4
  v4 := Tryd.zeroValue4
  t5 := Tryd.underlying5
  a5 := Tryd.isAgg5
  z5 := Tryd.sizeOf5
  v5 := Tryd.zeroValue5
  t9 := Tryd.underlying9
  a9 := Tryd.isAgg9
  z9 := Tryd.sizeOf9
  v9 := Tryd.zeroValue9
  t20 := Tryd.underlying20
  a20 := Tryd.isAgg20
  z20 := Tryd.sizeOf20
  v20 := Tryd.zeroValue20
  t37 := Tryd.underlying50
  a37 := Tryd.isAgg50
  z37 := Tryd.sizeOf50
  v37 := Tryd.zeroValue50
  t46 := Tryd.underlying79
  a46 := Tryd.isAgg79
  z46 := Tryd.sizeOf79
  v46 := Tryd.zeroValue79
  t51 := Tryd.underlying86
  a51 := Tryd.isAgg86
  z51 := Tryd.sizeOf86
  v51 := Tryd.zeroValue86
  t53 := Tryd.underlying81
  a53 := Tryd.isAgg81
  z53 := Tryd.sizeOf81
  v53 := Tryd.zeroValue81
  t171 := Tryd.underlying80
  a171 := Tryd.isAgg80
  z171 := Tryd.sizeOf80
  v171 := Tryd.zeroValue80
  t173 := Tryd.underlying84
  a173 := Tryd.isAgg84
  z173 := Tryd.sizeOf84
  v173 := Tryd.zeroValue84
  t212 := Tryd.underlying90
  a212 := Tryd.isAgg90
  z212 := Tryd.sizeOf90
  v212 := Tryd.zeroValue90
  t213 := Tryd.underlying91
  a213 := Tryd.isAgg91
  z213 := Tryd.sizeOf91
  t232 := Tryd.underlying94
  a232 := Tryd.isAgg94
  z232 := Tryd.sizeOf94
  v232 := Tryd.zeroValue94
  t233 := Tryd.underlying95
  a233 := Tryd.isAgg95
  z233 := Tryd.sizeOf95
  v233 := Tryd.zeroValue95
  g17 := by kernel_rfl
  g18 := by kernel_rfl
  g19 := by kernel_rfl
  i0 := by kernel_rfl
  i2 := by kernel_rfl
  i3 := by kernel_rfl
  i4 := by kernel_rfl
  i5 := by kernel_rfl
  i9 := by kernel_rfl
  i20 := by kernel_rfl
  i37 := by kernel_rfl
  i46 := by kernel_rfl
  i51 := by kernel_rfl
  i53 := by kernel_rfl
  i171 := by kernel_rfl
  i173 := by kernel_rfl
  i212 := by kernel_rfl
  i232 := by kernel_rfl
  i233 := by kernel_rfl
  m17 := by kernel_rfl
  m18 := by kernel_rfl
  m19 := by kernel_rfl }
open Go.RowKit Go.Sort Go.Lib in
theorem Tryd.strconv_Itoa (n : Int) (h0 : -9223372036854775808 ≤ n) (h1 : n ≤ 9223372036854775807) (w : World) (htab : Lib.TabIs Tryd.prog w "internal/strconv.uint64pow10" .u64 Lib.pow10Tab) :
    Calls Tryd.prog 22 #[.int .i64 n] w fun e w' => e = .returned (.string ⟨(Lib.itoa n).toArray⟩) ∧ ∃ k os, w' = grow (w.drewN k) os := Any.strconv_Itoa Tryd.laysM171 n h0 h1 w htab
def Tryd.lays219_ren : Go.Shelf.Ren := ⟨fun | 219 => 42 | 217 => 46 | 225 => 47 | 224 => 48 | 267 => 49 | 266 => 55 | 314 => 56 | n => n, fun | 9 => 9 | 3 => 3 | 4 => 4 | 5 => 5 | 46 => 79 | 146 => 87 | 51 => 86 | n => n, fun | 1 => 1 | n => n⟩
theorem Tryd.lays219 : Go.Proofs.Lays.n219 Tryd.prog Tryd.lays219_ren := {
  mixed := by kernel_rfl
  f217 := Tryd.func46.trans (congrArg some (by kernel_rfl))
  f219 := Tryd.func42.trans (congrArg some (by kernel_rfl))
  f224 := Tryd.func48.trans (congrArg some (by kernel_rfl))
  f225 := Tryd.func47.trans (congrArg some (by kernel_rfl))
  f266 := Tryd.func55.trans (congrArg some (by kernel_rfl))
  f267 := Tryd.func49.trans (congrArg some (by kernel_rfl))
  f314 := Tryd.func56.trans (congrArg some (by kernel_rfl))
  t3 := Tryd.underlying3
  a3 := Tryd.isAgg3
  z3 := Tryd.sizeOf3
  v3 := Tryd.zeroValue3
  t4 := Tryd.underlying4
  a4 := Tryd.isAgg4
  z4 := Tryd.sizeOf4
  v4 := Tryd.zeroValue4
  t5 := Tryd.underlying5
  a5 := Tryd.isAgg5
  z5 := Tryd.sizeOf5
  v5 := Tryd.zeroValue5
  t9 := Tryd.underlying9
  a9 := Tryd.isAgg9
  z9 := Tryd.sizeOf9
  v9 := Tryd.zeroValue9
  t46 := Tryd.underlying79
  a46 := Tryd.isAgg79
  z46 := Tryd.sizeOf79
  v46 := Tryd.zeroValue79
  t51 := Tryd.underlying86
  a51 := Tryd.isAgg86
  z51 := Tryd.sizeOf86
  v51 := Tryd.zeroValue86
  t146 := Tryd.underlying87
  a146 := Tryd.isAgg87
  z146 := Tryd.sizeOf87
  v146 := Tryd.zeroValue87
  g1 := by kernel_rfl }
open Go.RowKit Go.Lib in
theorem Tryd.stringslite_Index_one (s : ByteArray) (c : UInt8) (w : World) :
    Calls Tryd.prog 42 #[.string s, .string ⟨#[c]⟩] w fun e w' => e = .returned (.int .i64 (Lib.indexByte s.data.toList c)) ∧ w' = w := Any.stringslite_Index_one Tryd.lays219 s c w
def Tryd.lays240_ren : Go.Shelf.Ren := ⟨fun | 240 => 38 | 276 => 45 | n => n, fun | 0 => 0 | 4 => 4 | 9 => 9 | 20 => 20 | 70 => 49 | 72 => 52 | 37 => 50 | 164 => 75 | n => n, fun n => n⟩
theorem Tryd.lays240 : Go.Proofs.Lays.n240 Tryd.prog Tryd.lays240_ren := {
  mixed := by kernel_rfl
  f240 := Tryd.func38.trans (congrArg some (by kernel_rfl))
  f276 := Tryd.func45.trans (congrArg some (by kernel_rfl))
  t0 := Tryd.underlying0
  a0 := Tryd.isAgg0
  z0 := Tryd.sizeOf0
  v0 := Tryd.zeroValue0
  t4 := Tryd.underlying4
  a4 := Tryd.isAgg4
  z4 := Tryd.sizeOf4
  v4 := Tryd.zeroValue4
  t9 := Tryd.underlying9
  a9 := Tryd.isAgg9
  z9 := Tryd.sizeOf9
  v9 := Tryd.zeroValue9
  t20 := Tryd.underlying20
  a20 := Tryd.isAgg20
  z20 := Tryd.sizeOf20
  v20 := Tryd.zeroValue20
  t70 := Tryd.underlying49
  a70 := Tryd.isAgg49
  z70 := Tryd.sizeOf49
  v70 := Tryd.zeroValue49
  t72 := Tryd.underlying52
  a72 := Tryd.isAgg52
  z72 := Tryd.sizeOf52
  v72 := Tryd.zeroValue52
  t164 := Tryd.underlying75
  a164 := Tryd.isAgg75
  z164 := Tryd.sizeOf75
  v164 := Tryd.zeroValue75 }
theorem Tryd.Builder_X72_240 : Builder.X72 Tryd.prog Tryd.lays240_ren := {
  sizeBuilder := by kernel_rfl
  liesBuilder := by kernel_rfl }
end Go.Proofs

namespace Go.Proofs.YtibcoiabdnbdjaaDoor
open Go.Cm Go.Proofs Go.RowKit Go.Sort Go.Lib
set_option maxRecDepth 100000
theorem isC_eq {f : Nat} (h : isC f = true) : f = 38 := by
  unfold isC at h
  split at h
  · rfl
  · cases h
theorem isB_eq {t : TypeId} (h : isB t = true) : t = 52 := by
  unfold isB at h
  split at h
  · rfl
  · cases h
theorem chkok : ChkOk Tryd.prog where
  can := fun f hf => by
    obtain rfl := isC_eq hf
    exact ⟨Tryd.f38, Tryd.func38, by kernel_rfl, by kernel_rfl⟩
  fresh := fun f hf w b ty v hty hb => by
    obtain rfl := isC_eq hf
    obtain rfl := isB_eq hty
    refine Any.Builder_copyCheck_fresh Tryd.lays240 Tryd.Builder_X72_240 b w (by rw [cell_of_row w _ 0 _ _ _ hb]; rfl) ?_ ?_
    · simp only [World.shape?, hb]; rfl
    · simp [World.frozen?, hb]
  used := fun f hf w b ty v hty hb => by
    obtain rfl := isC_eq hf
    exact Any.Builder_copyCheck_used Tryd.lays240 Tryd.Builder_X72_240 b w (by rw [cell_of_row w _ 0 _ _ _ hb]; rfl)
theorem pok : POk Tryd.prog := ⟨mixed, chkok⟩

theorem d_stringslite_Index (N : Nat) : DenF Tryd.prog 42 ⟨[.t_str, .t_str], [.t_i64], [[none]], stringslite_Index N⟩ := by
  have can : Callable Tryd.prog 42 := ⟨Tryd.f42, Tryd.func42, by kernel_rfl, by kernel_rfl⟩
  refine ⟨can, fun cs r hr n => ⟨can, fun w ρ vs hs hvs => ?_⟩⟩
  match cs, hr with
  | [], hr => cases hr
  | [c0], hr => simp only [apF] at hr; split at hr <;> cases hr
  | [c0, c1], hr =>
    simp only [apF] at hr
    split at hr
    · rename_i h0
      split at hr
      · rename_i h1
        injection hr with hr
        obtain ⟨t0, ts, rfl, f0, h0⟩ := fits_cons h0
        obtain rfl := fits_nil h0
        obtain ⟨t1, ts, rfl, f1, h1⟩ := fits_cons h1
        obtain rfl := fits_nil h1
        rw [← fit_str f0, ← fit_str f1] at hvs hr
        obtain ⟨v0, us, rfl, r0, hus⟩ := hvs.head
        obtain ⟨v1, us, rfl, r1, hus⟩ := hus.head
        have hnil : us = [] := List.eq_nil_of_length_eq_zero (by rw [hus.1]; rfl)
        subst hnil
        obtain rfl : v0 = .string (gs t0) := Rep.inv_lit r0
        obtain rfl : v1 = .string (gs t1) := Rep.inv_lit r1
        have hr' : ixB (gs t0) (gs t1) = some r := hr
        unfold ixB at hr'
        split at hr'
        · rename_i c hc
          injection hr' with hr'
          have hb : gs t1 = ⟨#[c]⟩ := by
            generalize gs t1 = b at hc
            cases b with | mk d => cases d with | mk l => simp at hc; subst hc; rfl
          rw [hb]
          refine (Tryd.stringslite_Index_one (gs t0) c w).mono ?_
          rintro e w' ⟨rfl, rfl⟩
          refine ⟨_, ρ, rfl, Ext.refl, hs, ?_⟩
          rw [hr']
          exact .lit _
        · cases hr'
      · cases hr
    · cases hr
  | c0 :: c1 :: c2 :: cs, hr =>
    simp only [apF] at hr
    split at hr
    · split at hr <;> cases hr
    · cases hr

theorem pow10_tab : tab_2 = Lib.pow10Tab := by decide +kernel
theorem tabIs_of {w : World} (hg : GlobOk w env0 nilB) : Lib.TabIs Tryd.prog w "internal/strconv.uint64pow10" .u64 Lib.pow10Tab := by
  obtain ⟨h1, _, h3, cs, ty, sh, h4, h5⟩ := hg 2 ⟨.t_u64, tab_2⟩ rfl
  have hn : Tryd.prog.globalNamed "internal/strconv.uint64pow10" = some 2 := by kernel_rfl
  unfold Lib.TabIs World.var?
  rw [hn, Option.bind_some, h4]
  simp only
  congr 1
  apply Array.ext'
  have hlen : cs.toList.length = tab_2.length := by
    have : cs.size = tab_2.length * 1 := h5
    simpa using this
  rw [show (Lib.pow10Tab.map fun z => Value.int .u64 z).toArray.toList = Lib.pow10Tab.map fun z => Value.int .u64 z from rfl, ← pow10_tab]
  apply List.ext_getElem?
  intro i
  rw [List.getElem?_map]
  cases ht : tab_2[i]? with
  | none =>
    rw [Option.map_none, List.getElem?_eq_none_iff, hlen]
    exact List.getElem?_eq_none_iff.1 ht
  | some z =>
    have hi : i < tab_2.length := (List.getElem?_eq_some_iff.1 ht).1
    obtain ⟨v, hv, hc⟩ := h3 i 0 (.lit (.int .u64 z)) hi (by
      show (enc_t_u64 (tab_2.getD i 0))[0]? = _
      rw [show tab_2.getD i 0 = z by simp [List.getD, ht]]
      rfl)
    injection hv with hv
    subst hv
    have hc' : w.cell? ⟨2, i, none⟩ = some (.int .u64 z) := by
      have e : i * (1 : Nat) + 0 = i := by omega
      rw [← e]; exact hc
    rw [cell_of_row w _ i _ _ _ h4] at hc'
    rw [Option.map_some, ← hc']
    simp
theorem d_strconv_Itoa (N : Nat) : DenF Tryd.prog 22 ⟨[.t_i64], [.t_str], [[none]], strconv_Itoa N⟩ := by
  have can : Callable Tryd.prog 22 := ⟨Tryd.f22, Tryd.func22, by kernel_rfl, by kernel_rfl⟩
  refine ⟨can, fun cs r hr n => ⟨can, fun w ρ vs hs hvs => ?_⟩⟩
  match cs, hr with
  | [], hr => cases hr
  | [c0], hr =>
    simp only [apF] at hr
    split at hr
    · rename_i h0
      injection hr with hr
      obtain ⟨t0, ts, rfl, f0, h0⟩ := fits_cons h0
      obtain rfl := fits_nil h0
      rw [← fit_int f0] at hvs hr
      obtain ⟨v0, us, rfl, r0, hus⟩ := hvs.head
      have hnil : us = [] := List.eq_nil_of_length_eq_zero (by rw [hus.1]; rfl)
      subst hnil
      obtain rfl : v0 = .int .i64 (gi t0) := Rep.inv_lit r0
      have hr' : strconv_Itoa N (gi t0) = some r := hr
      unfold strconv_Itoa at hr'
      cases hb : decide (-9223372036854775808 ≤ gi t0) && decide (gi t0 ≤ 9223372036854775807) with
      | false => rw [hb] at hr'; cases hr'
      | true =>
        rw [hb] at hr'
        injection hr' with hr'
        simp only [Bool.and_eq_true, decide_eq_true_eq] at hb
        have hg : GlobOk w env0 nilB := hs.glob.ext (Nat.le_refl _) fun b _ _ => ⟨rfl, ok_env0 b⟩
        refine (Tryd.strconv_Itoa (gi t0) hb.1 hb.2 w (tabIs_of hg)).mono ?_
        rintro e w' ⟨rfl, k, os, rfl⟩
        have hbel : Below w.heap.size w (grow (w.drewN k) os) := below_grow w.heap.size w (Nat.le_refl _) k os
        refine ⟨_, ρ, rfl, Ext.world hbel, hs.world hbel, ?_⟩
        rw [← hr']
        exact .lit _
    · cases hr
  | c0 :: c1 :: cs, hr => simp only [apF] at hr; split at hr <;> cases hr
end Go.Proofs.YtibcoiabdnbdjaaDoor
