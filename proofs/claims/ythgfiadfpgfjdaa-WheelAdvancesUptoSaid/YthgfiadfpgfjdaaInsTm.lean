/- slices.Insert[[]usher/api.Timer]: its contract at one value and a row of one's own. -/
import Derived.Test.YthgfiadfpgfjdaaInsK
namespace Go.Proofs.Ythgfiadfpgfjdaa
open Go.RowKit

theorem info_insTm : (Try.prog.info? 43).map (fun i => (i.zero, i.size, i.bytes)) = some (some (.agg #[.int .i64 0, .int .i64 0]), 2, 16) := by kernel_rfl
set_option maxHeartbeats 8000000 in
set_option maxRecDepth 100000 in
theorem insTm2 (B : Nat) (v : Value) (X : List (List Value)) (i vb : Nat) (c : List Value) (w : World) (ho : w.ownsRow B 43 2 v X.length X.flatten) (hX : ∀ c ∈ X, c.length = 2) (h1 : ∀ u ∈ X.flatten, u.oneCell' = true) (hc : c.length = 2) (hc1 : ∀ u ∈ c, u.oneCell' = true)
    (hi : i ≤ X.length) (hn : X.length ≤ 100000) (hvb : w.heap[vb]? = some (.cells c.toArray 43 (0, 0))) (hne : v.ownBlock ≠ some vb) (hB : B ≤ w.heap.size) :
    Calls Try.prog 32 #[v, .int .i64 (i : Int), .slice (some ⟨vb, 0, none⟩) 1 1] w (InsPost2 B w 43 2 v X i c) := by
  obtain ⟨i0, ji, ji0, ji1, ji2⟩ := info_parts info_insTm
  have hz : ∀ W, (sizeOf 43).run Try.prog W = .ok 2 W := fun W => by simp [sizeOf, typeInfo, ji, ji1]
  have ht : Try.prog.underlying 38 = some (.slice (Try.prog.elem 38)) := by kernel_rfl
  have htu : Try.prog.underlying 38 = some (.slice 43) := by kernel_rfl
  have he : Try.prog.elem 38 = 43 := by kernel_rfl
  have hsz : (Try.prog.info? 43).map (·.size) = some 2 := by rw [ji]; simp [ji1]
  have hvn : ∀ j u, c[j]? = some u → w.cell? ((⟨vb, 0, none⟩ : Addr).add j) = some u := fun j u hu => by
    rw [Addr.add_lit, Nat.zero_add, blk_cell hvb]
    simpa using hu
  have lvb := lt_of_block hvb
  rcases Nat.lt_or_ge i X.length with hlt | hge
  · obtain ⟨hxl, h0 | ⟨g, cap, cur, rfl, hgB, hg, hcap, hcm, hcs, htk⟩⟩ := ho
    · omega
    · have hgv : g ≠ vb := fun h => hne (by rw [h]; rfl)
      have lg := lt_of_block hg
      have hcl : cur.toList.length = cap * 2 := by simpa using hcs
      obtain ⟨e1, e2, e3, e4⟩ := flat_take hX i (by omega)
      have g0 : ¬ (i : Int) = (X.length : Int) := by omega
      have g0b : ((i : Int) == (X.length : Int)) = false := by simpa using g0
      have hsl1 : ∀ W, (Instr.slice 38 (.slice (some ⟨g, 0, none⟩) X.length cap) (some (.int .i64 (i : Int))) none none).run Try.prog W = .ok (.slice (some ⟨g, i * 2, none⟩) (X.length - i) (cap - i)) W := fun W => by
        rw [run_slice_l W 38 _ _ _ ht .i64 (i : Int) (by omega) (by omega), he, hz]
        simp [Result.andThen, sliced, show ¬ cap = i by omega, Addr.add_lit]
      have hxc : X.length ≤ 100000 := hn
      have hw1 : IntKind.i64.wrap ((i : Int) + 1) = (i : Int) + 1 := by rw [IntKind.wrap_i64]; omega
      have hw2 : ((i : Int) + 1).toNat = i + 1 := by omega
      have hcmx : (cap : Int) ≤ 9223372036854775807 := by unfold maxLen at hcm; omega
      rcases (show X.length + 1 ≤ cap ∨ cap = X.length by omega) with hroom | hfull
      · -- there is room
        have g1 : ¬ (cap : Int) < (X.length : Int) + 1 := by omega
        obtain ⟨c1, hc1d⟩ : ∃ c1, c1 = cur.toList.take ((i + 1) * 2) ++ (X.drop i).flatten ++ cur.toList.drop ((i + 1) * 2 + (X.drop i).flatten.length) := ⟨_, rfl⟩
        obtain ⟨l1, l2, l3⟩ := ins_room hX hc hlt hroom hcl htk c1 hc1d
        have m1 : (X.length - i) * 2 + (i + 1) * 2 = X.length * 2 + 2 := by rw [← Nat.add_mul, show X.length - i + (i + 1) = X.length + 1 by omega, Nat.succ_mul]
        have m2 : X.length * 2 + 2 ≤ cap * 2 := by rw [← Nat.succ_mul]; exact Nat.mul_le_mul_right _ hroom
        have m3 : i * 2 + 2 ≤ X.length * 2 := by rw [← Nat.succ_mul]; exact Nat.mul_le_mul_right _ hlt
        have hsl2 : ∀ W, (Instr.slice 38 (.slice (some ⟨g, 0, none⟩) X.length cap) none (some (.int .i64 ((X.length : Int) + 1))) none).run Try.prog W = .ok (.slice (some ⟨g, 0, none⟩) (X.length + 1) cap) W := fun W => by
          rw [run_slice_h W 38 _ _ _ ht .i64 _ (by omega) (by omega), he, hz]
          simp [Result.andThen, sliced, Addr.add_lit]
        have hsl3 : ∀ W, (Instr.slice 38 (.slice (some ⟨g, 0, none⟩) (X.length + 1) cap) (some (.int .i64 ((i : Int) + 1))) none none).run Try.prog W = .ok (.slice (some ⟨g, (i + 1) * 2, none⟩) (X.length - i) (cap - (i + 1))) W := fun W => by
          rw [run_slice_l W 38 _ _ _ ht .i64 _ (by omega) (by omega), he, hz]
          simp [Result.andThen, sliced, show ¬ cap = i + 1 by omega, Addr.add_lit, show ((i : Int) + 1).toNat = i + 1 by omega]
        have hsl4 : ∀ W, (Instr.slice 38 (.slice (some ⟨g, 0, none⟩) (X.length + 1) cap) (some (.int .i64 (i : Int))) none none).run Try.prog W = .ok (.slice (some ⟨g, i * 2, none⟩) (X.length + 1 - i) (cap - i)) W := fun W => by
          rw [run_slice_l W 38 _ _ _ ht .i64 _ (by omega) (by omega), he, hz]
          simp [Result.andThen, sliced, show ¬ cap = i by omega, Addr.add_lit]
        have hov : ∀ lb cb, (callFunc 38 #[.slice (some ⟨vb, 0, none⟩) 1 1, .slice (some ⟨g, (i + 1) * 2, none⟩) lb cb]).run Try.prog w = .ok (.value (.bool false)) w := fun lb cb => by
          rw [run_callFunc_extern Try.func38 (by kernel_rfl) (by kernel_rfl) (by kernel_rfl) (e := Extern.SlicesOverlaps.overlaps #[38, 38] #[4]) (by kernel_rfl),
            Lib.run_overlaps_apart w 38 4 43 htu 2 hz ⟨vb, 0, none⟩ ⟨g, (i + 1) * 2, none⟩ 1 1 lb cb (Ne.symm hgv) 43 43 c.toArray.size cur.size (by simp [World.shape?, hvb]) (by simp [World.shape?, hg]) (by omega) (blk_free hvb _) (blk_free hvb _)]
          rfl
        have hcp1 : ∀ ty, (Builtin.copy_ #[38, 38] ty #[.slice (some ⟨g, (i + 1) * 2, none⟩) (X.length - i) (cap - (i + 1)), .slice (some ⟨g, i * 2, none⟩) (X.length + 1 - i) (cap - i)]).run Try.prog w.drew = .ok (goInt ((X.length - i : Nat) : Int)) (w.drew.setRow g c1.toArray) := fun ty => by
          have hmin : Nat.min (X.length + 1 - i) (X.length - i) = X.length - i := by simp only [Nat.min_def]; split <;> omega
          have := run_copyK (P := Try.prog) w.drew 38 38 ty 43 2 g ((i + 1) * 2) (X.length - i) (cap - (i + 1)) ⟨g, i * 2, none⟩ (X.length + 1 - i) (cap - i) cur 43 (X.drop i).flatten htu hsz hg (by rw [hmin, e4]) (fun j u hu => by
            rw [Addr.add_lit]
            rw [← e2, ← htk, List.getElem?_drop, List.getElem?_take] at hu
            split at hu
            · rw [blk_cell (w := w.drew) hg, ← Array.getElem?_toList]; exact hu
            · cases hu) (by rw [e4]; rw [hcs]; omega) (fun u hu => h1 u (by rw [← List.take_append_drop (i * 2) X.flatten, e2]; exact List.mem_append_right _ hu))
          rw [hmin, ← hc1d] at this
          exact this
        have hg1 : (w.drew.setRow g c1.toArray).heap[g]? = some (.cells c1.toArray 43 (0, 0)) := setRow_heap w.drew g cur c1.toArray 43 (0, 0) hg
        have hcp2 : ∀ ty, (Builtin.copy_ #[38, 38] ty #[.slice (some ⟨g, i * 2, none⟩) (X.length + 1 - i) (cap - i), .slice (some ⟨vb, 0, none⟩) 1 1]).run Try.prog (w.drew.setRow g c1.toArray) = .ok (goInt ((1 : Nat) : Int)) ((w.drew.setRow g c1.toArray).setRow g (c1.take (i * 2) ++ c ++ c1.drop (i * 2 + c.length)).toArray) := fun ty => by
          have hmin : Nat.min 1 (X.length + 1 - i) = 1 := by simp only [Nat.min_def]; split <;> omega
          have := run_copyK (P := Try.prog) (w.drew.setRow g c1.toArray) 38 38 ty 43 2 g (i * 2) (X.length + 1 - i) (cap - i) ⟨vb, 0, none⟩ 1 1 c1.toArray 43 c htu hsz hg1 (by rw [hmin, hc]) (fun j u hu => by
            have h := hvn j u hu
            rw [Addr.add_lit] at h ⊢
            exact (cell_setRow_other w.drew g _ _ (by show vb ≠ g; exact Ne.symm hgv)).trans h) (by simp only [List.size_toArray]; omega) hc1
          rw [hmin] at this
          exact this
        have HL2 := Lib.hid l2
        have HL3 := Lib.hid l3
        have HG : Hid (((w.drew.setRow g c1.toArray).setRow g (c1.take (i * 2) ++ c ++ c1.drop (i * 2 + c.length)).toArray).heap[g]? = some (.cells (c1.take (i * 2) ++ c ++ c1.drop (i * 2 + c.length)).toArray 43 (0, 0))) := setRow_heap _ g _ _ _ _ hg1
        have HGr : Hid (w.grownBy ((w.drew.setRow g c1.toArray).setRow g (c1.take (i * 2) ++ c ++ c1.drop (i * 2 + c.length)).toArray) (some g)) := ⟨rfl, rfl, rfl, by simp [World.setRow], fun k _ hk => by
          have hkg : k ≠ g := fun e => hk (by rw [e])
          rw [setRow_other _ _ _ _ hkg, setRow_other _ _ _ _ hkg]; rfl⟩
        generalize c1.take (i * 2) ++ c ++ c1.drop (i * 2 + c.length) = c2 at hcp2 HL2 HL3 HG HGr
        clear hc1d l1 l2 l3 m1 m2 m3 e1 e2 e3 e4 hcl htk hg hg1 h1 hc1 hvn hvb hcs hxl hX hc
        clear ht htu he hsz hz
        --M room
        go_enter Try.func32, Try.ntmps32
        go_wp2_with (simp only [hov])
        go_region_law (refine step_copyK rfl _ _ 38 38 rfl _ _ (by simp [Act.eval, Act.put]) (by simp [Act.eval, Act.put]) hcp1 ?_)
        go_wp2_with (at_builtin; refine wpList_copyK _ rfl _ _ 38 38 rfl _ _ rfl rfl hcp2 ?_)
        refine bodyPost_ret (v := .slice (some ⟨g, 0, none⟩) (X.length + 1) cap) ?_ rfl ⟨_, rfl, ⟨by rw [← HL3.out, List.length_take, HL2.out]; exact Nat.min_eq_left (Nat.mul_le_mul_right _ hroom), .inr ⟨g, cap, c2.toArray, rfl, hgB, HG.out, hroom, hcm, by simpa using HL2.out, by simpa using HL3.out⟩⟩, HGr.out, fun b hb => Or.inl hb⟩
        simp [results, Try.results32, go_sem, *]
      · -- there is none
        subst hfull
        have g1 : (X.length : Int) < (X.length : Int) + 1 := by omega
        obtain ⟨G, hG⟩ : ∃ G, G = grownCap w (X.length + 1) X.length 43 := ⟨_, rfl⟩
        have hGe : X.length + 1 ≤ G := by rw [hG]; exact grownCap_ge _ _ _ _
        have hGm : G ≤ maxLen := by rw [hG]; exact grownCap_le_maxLen _ _ _ _ (by unfold maxLen; omega)
        have hGx : (G : Int) ≤ 9223372036854775807 := by unfold maxLen at hGm; omega
        obtain ⟨row, hrow⟩ : ∃ row : Array Value, row = (X.take i).flatten.toArray ++ Builtin.zeroCells (.agg #[.int .i64 0, .int .i64 0] : Value).cells (X.length + 1 - i) ++ Builtin.zeroCells (.agg #[.int .i64 0, .int .i64 0] : Value).cells (G - (X.length + 1)) := ⟨_, rfl⟩
        have hrl : row.toList.length = G * 2 := by
          rw [hrow]
          simp only [Array.toList_append, List.length_append, Array.length_toList, size_zeroCells, e3]
          have : (.agg #[.int .i64 0, .int .i64 0] : Value).cells.size = 2 := rfl
          rw [this, ← Nat.add_mul, ← Nat.add_mul]
          congr 1; omega
        have hrt : row.toList.take (i * 2) = (X.take i).flatten := by
          rw [hrow]
          simp only [Array.toList_append, List.append_assoc]
          rw [List.take_append_of_le_length (by omega), List.take_of_length_le (by omega)]
        obtain ⟨r1, hr1⟩ : ∃ r1, r1 = row.toList.take (i * 2) ++ c ++ row.toList.drop (i * 2 + c.length) := ⟨_, rfl⟩
        obtain ⟨l1, l2, l3⟩ := ins_grow hX hc hlt hGe hrl hrt r1 hr1
        have m1 : (X.length - i) * 2 + (i + 1) * 2 = X.length * 2 + 2 := by rw [← Nat.add_mul, show X.length - i + (i + 1) = X.length + 1 by omega, Nat.succ_mul]
        have m2 : X.length * 2 + 2 ≤ G * 2 := by rw [← Nat.succ_mul]; exact Nat.mul_le_mul_right _ hGe
        have m3 : i * 2 + 2 ≤ X.length * 2 := by rw [← Nat.succ_mul]; exact Nat.mul_le_mul_right _ hlt
        have hsl2 : ∀ W, (Instr.slice 38 (.slice (some ⟨g, 0, none⟩) X.length X.length) none (some (.int .i64 (i : Int))) none).run Try.prog W = .ok (.slice (some ⟨g, 0, none⟩) i X.length) W := fun W => by
          rw [run_slice_h W 38 _ _ _ ht .i64 _ (by omega) (by omega), he, hz]
          simp [Result.andThen, sliced, Addr.add_lit]
        have hap : ∀ ty, (Builtin.append_ #[38, 3] ty #[.slice (some ⟨g, 0, none⟩) i X.length, .int .i64 ((X.length : Int) + 1 - (i : Int))]).run Try.prog w = .ok (.slice (some ⟨w.heap.size, 0, none⟩) (X.length + 1) G) (w.drew.alloc (.cells row 43)) := fun ty => by
          have hold : (Builtin.firstCells i0.size i (.slice (some ⟨g, 0, none⟩) i X.length)).run Try.prog w.drew = .ok (X.take i).flatten.toArray w.drew := by
            rw [ji1]
            exact run_firstCells_some w.drew 2 i ⟨g, 0, none⟩ i X.length (X.take i).flatten (by rw [e3]) (fun j u hu => by
              rw [Addr.add_lit, Nat.zero_add, blk_cell (w := w.drew) hg, ← Array.getElem?_toList]
              rw [← e1, ← htk, List.take_take, List.getElem?_take] at hu
              split at hu
              · exact hu
              · cases hu)
          have h := Lib.run_append_grow_zeros (P := Try.prog) w 38 3 ty 43 i0 _ .i64 .i64 htu (by kernel_rfl) ji ji0 (some ⟨g, 0, none⟩) i X.length (X.take i).flatten hold (X.length + 1 - i) (by omega) (by rw [ji1]; decide) (by omega) (by omega) (by rw [ji2]; omega) (by rw [ji2, show i + (X.length + 1 - i) = X.length + 1 by omega]; exact growslice_fits (by omega) (by omega))
          rw [show i + (X.length + 1 - i) = X.length + 1 by omega, ← hG, ← hrow] at h
          rw [show ((X.length : Int) + 1 - (i : Int)) = ((X.length + 1 - i : Nat) : Int) by omega]
          exact h
        have hsl3 : ∀ W, (Instr.slice 38 (.slice (some ⟨w.heap.size, 0, none⟩) (X.length + 1) G) (some (.int .i64 (i : Int))) none none).run Try.prog W = .ok (.slice (some ⟨w.heap.size, i * 2, none⟩) (X.length + 1 - i) (G - i)) W := fun W => by
          rw [run_slice_l W 38 _ _ _ ht .i64 _ (by omega) (by omega), he, hz]
          simp [Result.andThen, sliced, show ¬ G = i by omega, Addr.add_lit]
        have hsl4 : ∀ W, (Instr.slice 38 (.slice (some ⟨w.heap.size, 0, none⟩) (X.length + 1) G) (some (.int .i64 ((i : Int) + 1))) none none).run Try.prog W = .ok (.slice (some ⟨w.heap.size, (i + 1) * 2, none⟩) (X.length - i) (G - (i + 1))) W := fun W => by
          rw [run_slice_l W 38 _ _ _ ht .i64 _ (by omega) (by omega), he, hz]
          simp [Result.andThen, sliced, show ¬ G = i + 1 by omega, Addr.add_lit, show ((i : Int) + 1).toNat = i + 1 by omega]
        have hg3 : (w.alloc (.cells row 43)).drew.heap[w.heap.size]? = some (.cells row 43 (0, 0)) := heap_at (w := w.drew) _ rfl
        have hcp3 : ∀ ty, (Builtin.copy_ #[38, 38] ty #[.slice (some ⟨w.heap.size, i * 2, none⟩) (X.length + 1 - i) (G - i), .slice (some ⟨vb, 0, none⟩) 1 1]).run Try.prog (w.alloc (.cells row 43)).drew = .ok (goInt ((1 : Nat) : Int)) ((w.alloc (.cells row 43)).drew.setRow w.heap.size r1.toArray) := fun ty => by
          have hmin : Nat.min 1 (X.length + 1 - i) = 1 := by simp only [Nat.min_def]; split <;> omega
          have := run_copyK (P := Try.prog) (w.alloc (.cells row 43)).drew 38 38 ty 43 2 w.heap.size (i * 2) (X.length + 1 - i) (G - i) ⟨vb, 0, none⟩ 1 1 row 43 c htu hsz hg3 (by rw [hmin, hc]) (fun j u hu => by
            have h := hvn j u hu
            rw [Addr.add_lit] at h ⊢
            exact cell_alloc (w := w.drew) _ h) (by rw [← Array.length_toList, hrl]; omega) hc1
          rw [hmin, ← hr1] at this
          exact this
        have hg4 : ((w.alloc (.cells row 43)).drew.setRow w.heap.size r1.toArray).drew.heap[w.heap.size]? = some (.cells r1.toArray 43 (0, 0)) := setRow_heap _ w.heap.size _ _ _ _ hg3
        obtain ⟨r2, hr2⟩ : ∃ r2, r2 = r1.take ((i + 1) * 2) ++ (X.drop i).flatten ++ r1.drop ((i + 1) * 2 + (X.drop i).flatten.length) := ⟨_, rfl⟩
        have hcp4 : ∀ ty, (Builtin.copy_ #[38, 38] ty #[.slice (some ⟨w.heap.size, (i + 1) * 2, none⟩) (X.length - i) (G - (i + 1)), .slice (some ⟨g, i * 2, none⟩) (X.length - i) (X.length - i)]).run Try.prog ((w.alloc (.cells row 43)).drew.setRow w.heap.size r1.toArray).drew = .ok (goInt ((X.length - i : Nat) : Int)) (((w.alloc (.cells row 43)).drew.setRow w.heap.size r1.toArray).drew.setRow w.heap.size r2.toArray) := fun ty => by
          have hmin : Nat.min (X.length - i) (X.length - i) = X.length - i := by simp only [Nat.min_def]; split <;> omega
          have := run_copyK (P := Try.prog) ((w.alloc (.cells row 43)).drew.setRow w.heap.size r1.toArray).drew 38 38 ty 43 2 w.heap.size ((i + 1) * 2) (X.length - i) (G - (i + 1)) ⟨g, i * 2, none⟩ (X.length - i) (X.length - i) r1.toArray 43 (X.drop i).flatten htu hsz hg4 (by rw [hmin, e4]) (fun j u hu => by
            rw [Addr.add_lit]
            have hcell : w.cell? ⟨g, i * 2 + j, none⟩ = some u := by
              rw [← e2, ← htk, List.getElem?_drop, List.getElem?_take] at hu
              split at hu
              · rw [blk_cell hg, ← Array.getElem?_toList]; exact hu
              · cases hu
            have h2 : (w.alloc (.cells row 43)).drew.cell? ⟨g, i * 2 + j, none⟩ = some u := cell_alloc (w := w.drew) _ hcell
            exact (cell_setRow_other _ _ _ _ (by show g ≠ w.heap.size; omega)).trans h2) (by simp only [List.size_toArray]; rw [e4]; omega) (fun u hu => h1 u (by rw [← List.take_append_drop (i * 2) X.flatten, e2]; exact List.mem_append_right _ hu))
          rw [hmin] at this
          simp only at this
          rw [← hr2] at this
          exact this
        rw [← hr2] at l2 l3
        have HL2 := Lib.hid l2
        have HL3 := Lib.hid l3
        have HG : Hid ((((w.alloc (.cells row 43)).drew.setRow w.heap.size r1.toArray).drew.setRow w.heap.size r2.toArray).heap[w.heap.size]? = some (.cells r2.toArray 43 (0, 0))) := setRow_heap _ _ _ _ _ _ hg4
        have HGr : Hid (w.grownBy (((w.alloc (.cells row 43)).drew.setRow w.heap.size r1.toArray).drew.setRow w.heap.size r2.toArray) (some g)) := ⟨rfl, rfl, rfl, by simp [World.setRow], fun k hk _ => by
          rw [setRow_other _ _ _ _ (by omega : k ≠ w.heap.size)]
          refine (setRow_other (w.alloc (.cells row 43)).drew w.heap.size k _ (by omega)).trans ?_
          exact heap_alloc_old w.drew _ hk⟩
        clear hr1 hr2 l1 l2 l3 m1 m2 m3 e1 e2 e3 e4 hcl htk hg hg3 hg4 h1 hc1 hvn hvb hcs hxl hX hc hrow hrl hrt hG
        clear ht htu he hsz hz
        --M grow
        go_enter Try.func32, Try.ntmps32
        go_wp2_with (at_builtin; first | (refine wpList_appendK _ rfl _ _ 38 3 rfl _ _ rfl rfl hap ?_) | (refine wpList_copyK _ rfl _ _ 38 38 rfl _ _ rfl rfl hcp3 ?_))
        go_region_law (refine step_copyK rfl _ _ 38 38 rfl _ _ (by simp [Act.eval, Act.put]) (by simp [Act.eval, Act.put]) hcp4 ?_)
        go_wp2
        refine bodyPost_ret (v := .slice (some ⟨w.heap.size, 0, none⟩) (X.length + 1) G) ?_ rfl ⟨_, rfl, ⟨by rw [← HL3.out, List.length_take, HL2.out]; exact Nat.min_eq_left (Nat.mul_le_mul_right _ hGe), .inr ⟨w.heap.size, G, r2.toArray, rfl, hB, HG.out, hGe, hGm, by simpa using HL2.out, by simpa using HL3.out⟩⟩, HGr.out, fun b hb => Or.inr (Nat.le_of_eq (Option.some.inj hb))⟩
        simp [results, Try.results32, go_sem, *]
  · obtain rfl : i = X.length := by omega
    have HO := Lib.hid ho
    obtain ⟨a, cap, rfl, _, _⟩ := owns_shape ho
    obtain ⟨u0, hsl⟩ : ∃ u, ∀ W, (Instr.slice 38 (.slice a X.length cap) (some (.int .i64 (X.length : Int))) none none).run Try.prog W = .ok u W := ⟨_, fun W => by
      rw [run_slice_l W 38 _ _ _ ht .i64 _ (by omega) (by omega), he, hz]; rfl⟩
    have HN := Lib.hid hvn
    have HC1 := Lib.hid hc1
    have HIn := Lib.hid (insL_end X c)
    have HTU := Lib.hid htu
    clear ho hvn hc1 h1 hX hvb ht htu he hsz hz
    --M end
    go_enter Try.func32, Try.ntmps32
    go_wp2_with (at_builtin; go_loud (refine wpList_append_own2 _ rfl _ _ 38 rfl B 43 i0 (.agg #[.int .i64 0, .int .i64 0]) 2 16 HTU.out ji ji0 ji1 ji2 rfl (by decide) _ X.length X.flatten rfl HO.out ⟨vb, 0, none⟩ 1 1 c rfl (by rw [hc]) HN.out HC1.out (Nat.zero_lt_one) ?c2 ?c3 hB ?_))
    case c2 => unfold maxLen; omega
    case c3 => omega
    intro v' w' hown' hgrow hnew'
    have HO2 : Hid (w'.ownsRow B 43 2 v' (X.length + 1) (insL X X.length c).flatten) := by
      show World.ownsRow _ _ _ _ _ _ _
      rw [HIn.out, List.flatten_append]; simpa using hown'
    have HG2 := Lib.hid hgrow
    have HG3 := Lib.hid hnew'
    obtain ⟨a', cap', rfl, _, _⟩ := owns_shape hown'
    clear hown' hgrow hnew'
    go_wp2
    refine bodyPost_ret (v := .slice a' (X.length + 1) cap') ?_ rfl ⟨_, rfl, HO2.out, HG2.out, HG3.out⟩
    simp [results, Try.results32, go_sem, *]
theorem insTm (B : Nat) (v : Value) (X : List (List Value)) (i vb : Nat) (c : List Value) (w : World) (ho : w.ownsRow B 43 2 v X.length X.flatten) (hX : ∀ c ∈ X, c.length = 2) (h1 : ∀ u ∈ X.flatten, u.oneCell' = true) (hc : c.length = 2) (hc1 : ∀ u ∈ c, u.oneCell' = true)
    (hi : i ≤ X.length) (hn : X.length ≤ 100000) (hvb : w.heap[vb]? = some (.cells c.toArray 43 (0, 0))) (hne : v.ownBlock ≠ some vb) (hB : B ≤ w.heap.size) :
    Calls Try.prog 32 #[v, .int .i64 (i : Int), .slice (some ⟨vb, 0, none⟩) 1 1] w (InsPost B w 43 2 v X i c) :=
  (insTm2 B v X i vb c w ho hX h1 hc hc1 hi hn hvb hne hB).mono fun _ _ h => h.one
end Go.Proofs.Ythgfiadfpgfjdaa
