/- strconv.Atoi and strings.Split in plain words. -/
import Derived.Test.YtnebijdifemicaaDoorRpe
import Derived.Test.YtnebijdifemicaaDoorShr
namespace Go.Proofs.YtnebijdifemicaaDoor
open Go.RowKit
/-- What Read's callees read of package variables. -/
structure LnX (w : World) : Prop where
  ln : LnW w
  mx : ∃ m, w.cell? ⟨1, 0, none⟩ = some (.int .i64 m)
  es : ∃ ev, w.cell? ⟨2, 0, none⟩ = some ev ∧ (ev = .nilIface ∨ ∃ te pe, ev = .iface te pe)
  er : ∃ ev, w.cell? ⟨3, 0, none⟩ = some ev ∧ (ev = .nilIface ∨ ∃ te pe, ev = .iface te pe)
theorem LnX.below {w w' : World} (h : LnX w) (hb : Below w.heap.size w w') : LnX w' := by
  obtain ⟨h1, ⟨m, h2⟩, ⟨e3, h3, k3⟩, ⟨e4, h4, k4⟩⟩ := h
  exact ⟨h1.below hb, ⟨m, cell_below' hb h2⟩, ⟨e3, cell_below' hb h3, k3⟩, ⟨e4, cell_below' hb h4, k4⟩⟩
theorem prog_Atoi {p : List UInt8} {w : World} (hx : LnX w) (hp : p.length ≤ 200000) : Calls Tryd.prog 35 #[.string ⟨p.toArray⟩] w fun e w' => (∃ err, e = .returned (.tuple #[.int .i64 (atV p), err])) ∧ Below w.heap.size w w' := by
  have hs : (⟨p.toArray⟩ : ByteArray).size = p.length := List.size_toArray ..
  obtain ⟨_, _, ⟨e3, h3, k3⟩, ⟨e4, h4, k4⟩⟩ := hx
  rcases h : Lib.atoiAll p with v | _ | _
  · refine (strconv_Atoi_ok ⟨p.toArray⟩ (by omega) v h w).mono ?_
    rintro e w' ⟨rfl, hw⟩
    refine ⟨⟨_, by unfold atV; rw [h]⟩, ?_⟩
    rcases hw with rfl | ⟨t, rfl⟩
    · exact Below.refl _ _
    · exact Lib.bytesWorld_below _ _ _
  · refine (strconv_Atoi_no ⟨p.toArray⟩ (by omega) h (fun _ e => by cases e) (fun e => by cases e) e3 w h3 k3).mono ?_
    rintro e w' ⟨N, rfl, _, _, hb⟩
    exact ⟨⟨_, by unfold atV; rw [h]⟩, hb⟩
  · refine (strconv_Atoi_range ⟨p.toArray⟩ (by omega) h e4 w h4 k4).mono ?_
    rintro e w' ⟨N, rfl, _, _, hb⟩
    exact ⟨⟨_, by unfold atV; rw [h]⟩, hb⟩
def strsV (L : List (List UInt8)) : Array Value := (L.map fun p => Value.string ⟨p.toArray⟩).toArray
theorem prog_Split {t : List UInt8} {w : World} (hx : LnX w) (ht : t.length ≤ 200000) : Calls Tryd.prog 33 #[.string ⟨t.toArray⟩, .string ⟨#[32]⟩] w fun e w' => e = .returned (.slice (some ⟨w.heap.size, 0, none⟩) (spl t).length (spl t).length) ∧ w' = w.alloc (.cells (strsV (spl t)) 9 (0, 0)) := by
  have hs : (⟨t.toArray⟩ : ByteArray).size = t.length := List.size_toArray ..
  obtain ⟨_, ⟨m, hm⟩, _, _⟩ := hx
  have hk : Lib.countB ⟨t.toArray⟩ ⟨#[32]⟩ = t.count 32 := Lib.count_one 32 t
  have hd := Lib.splitB_data ⟨#[32]⟩ 0 (Lib.countB ⟨t.toArray⟩ ⟨#[32]⟩) ⟨t.toArray⟩
  have hd2 : Lib.splitK [32] 0 (Lib.countB ⟨t.toArray⟩ ⟨#[32]⟩) t = spl t := splitK_spl _ _ (by rw [hk]; exact Nat.le_refl _)
  have hd3 : (Lib.splitB ⟨#[32]⟩ 0 (Lib.countB ⟨t.toArray⟩ ⟨#[32]⟩) ⟨t.toArray⟩).map (·.data.toList) = spl t := hd.trans hd2
  have hl := Lib.splitB_all ⟨#[32]⟩ (by decide) 0 _ ⟨t.toArray⟩ rfl
  have hl2 := congrArg List.length hd3
  rw [List.length_map, hl] at hl2
  have hv : ((Lib.splitB ⟨#[32]⟩ 0 (Lib.countB ⟨t.toArray⟩ ⟨#[32]⟩) ⟨t.toArray⟩).map Value.string).toArray = strsV (spl t) := by
    unfold strsV
    rw [← hd3, List.map_map]
    rfl
  refine (strings_Split ⟨t.toArray⟩ ⟨#[32]⟩ m w (by omega) hm (by decide)).mono ?_
  rintro e w' ⟨rfl, rfl⟩
  exact ⟨by rw [hl2], by rw [hv]⟩
def trimS (s : List UInt8) : List UInt8 := Lib.trimSuffix s [10]
theorem trimS_line (a : List UInt8) : trimS (a ++ [10]) = a := by
  unfold trimS Lib.trimSuffix Lib.hasSuffix
  rw [if_pos (by rw [List.isSuffixOf_iff_suffix]; exact ⟨a, rfl⟩)]
  simp
theorem trimS_len (s : List UInt8) : (trimS s).length ≤ s.length := by
  unfold trimS Lib.trimSuffix
  split
  · rw [List.length_take]; omega
  · exact Nat.le_refl _
theorem prog_Trim {s : List UInt8} (hs : s.length ≤ 200000) (w : World) : Calls Tryd.prog 34 #[.string ⟨s.toArray⟩, .string ⟨#[10]⟩] w fun e w' => e = .returned (.string ⟨(trimS s).toArray⟩) ∧ w' = w :=
  strings_TrimSuffix ⟨s.toArray⟩ ⟨#[10]⟩ w (by have h : (⟨s.toArray⟩ : ByteArray).size = s.length := List.size_toArray ..; omega)
theorem spl_len : ∀ (s : List UInt8), (spl s).length ≤ s.length + 1
  | [] => Nat.le_refl _
  | b :: r => by
    have ih := spl_len r
    by_cases h : b = 32
    · subst h; rw [spl_32]; simp; omega
    · rw [spl_b h]
      split
      · simp
      · rename_i p ps e; rw [e] at ih; simp at ih ⊢; omega
theorem spl_mem : ∀ (s : List UInt8), ∀ p ∈ spl s, p.length ≤ s.length
  | [], p, hp => by simp [spl] at hp; subst hp; exact Nat.le_refl _
  | b :: r, p, hp => by
    have ih := spl_mem r
    by_cases h : b = 32
    · subst h
      rw [spl_32] at hp
      rcases List.mem_cons.1 hp with rfl | hp
      · simp
      · have := ih p hp; simp; omega
    · rw [spl_b h] at hp
      split at hp
      · rw [List.mem_singleton] at hp; subst hp; simp
      · rename_i q qs e
        rcases List.mem_cons.1 hp with rfl | hp
        · have := ih q (by rw [e]; exact List.mem_cons_self ..); simp; omega
        · have := ih p (by rw [e]; exact List.mem_cons_of_mem _ hp); simp; omega
end Go.Proofs.YtnebijdifemicaaDoor
