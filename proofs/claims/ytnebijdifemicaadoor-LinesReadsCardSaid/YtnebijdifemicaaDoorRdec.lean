/- usherref.Dec and EventWord: their contracts. -/
import Derived.Test.YtnebijdifemicaaDoorLn
import Derived.Laws.IdiomStrings
import Derived.Deep.RegionWith
namespace Go.Proofs.YtnebijdifemicaaDoor
open Go.RowKit
theorem conv_lit {w : World} {g : Nat} {d : Int} (u : UInt8) (hd : d = (u.toNat : Int)) {T : TypeId} {fr : Nat × Nat} (h : w.heap[g]? = some (.cells #[.int .u8 d] T fr)) : (convert 33 9 (.slice (some ⟨g, 0, none⟩) 1 1)).run Tryd.prog w = .ok (.string ⟨#[u]⟩) w := by
  subst hd
  exact run_convert_bytes_back (P := Tryd.prog) w 33 9 5 ⟨g, 0, none⟩ 1 [u] Tryd.underlying33 Tryd.underlying5 Tryd.underlying9 (fun j hj => by
    match j, hj with
    | 0, _ => show w.cell? ⟨g, 0, none⟩ = _; rw [blk_cell h 0]; rfl)
theorem dec_app (a b : List UInt8) : (⟨a.toArray⟩ : ByteArray) ++ ⟨b.toArray⟩ = ⟨(a ++ b).toArray⟩ := by
  rw [ByteArray.mk_append_mk]
theorem dig_u8 (k : Nat) (h : k < 10) : (48 + (k : Int)) = ((UInt8.ofNat (48 + k)).toNat : Int) := by
  rw [UInt8.toNat_ofNat', Nat.mod_eq_of_lt (by omega)]; omega
theorem conv_keep {w w' : World} {d : Int} (u : UInt8) (hd : d = (u.toNat : Int)) (hb : Below (w.alloc (.cells #[.int .u8 d] 5 (0, 0))).drew.heap.size (w.alloc (.cells #[.int .u8 d] 5 (0, 0))).drew w') (g : Nat) (hg : g = w.heap.size) : (convert 33 9 (.slice (some ⟨g, 0, none⟩) 1 1)).run Tryd.prog w' = .ok (.string ⟨#[u]⟩) w' :=
  conv_lit u hd (blk_below hb (show (w.alloc (.cells #[.int .u8 d] 5 (0, 0))).heap[g]? = _ from heap_at _ hg) (by show g < (w.alloc (.cells #[.int .u8 d] 5 (0, 0))).heap.size; simp; omega))
set_option maxHeartbeats 4000000 in
set_option maxRecDepth 100000 in
theorem ref_Dec : ∀ (n : Nat) (w : World), n < 34359738368 → Calls Tryd.prog 30 #[.int .i64 n] w fun e w' => e = .returned (.string ⟨(Lib.decDigits n).toArray⟩) ∧ Below w.heap.size w w' := by
  intro n
  induction n using Nat.strongRecOn with
  | _ n ih =>
  intro w hn
  rcases Nat.lt_or_ge n 10 with hlt | hge
  · have hlt' : (n : Int) < 10 := by omega
    have hm : (48 + (n : Int)) % 256 = 48 + (n : Int) := by omega
    obtain ⟨u, hu⟩ : ∃ u, u = UInt8.ofNat (48 + n) := ⟨_, rfl⟩
    have hd : Lib.decDigits n = [u] := by rw [hu]; exact Lib.decDigits_one hlt
    have hcv := conv_lit (w := w.alloc (.cells #[.int .u8 (48 + (n : Int))] 5 (0, 0))) (g := w.heap.size) u (by rw [hu]; exact dig_u8 n hlt) (heap_at _ rfl)
    have HD := Lib.hid hd
    clear ih hd hu
    go_enter Tryd.func30, Tryd.ntmps30
    go_wp2
    go_ret
    exact ⟨by rw [HD.out]; rfl, (by repeat (first | (with_reducible exact Below.refl _ _) | (with_reducible assumption) | (with_reducible refine Below.drew ?_) | (with_reducible refine Below_drewN ?_) | (with_reducible refine Below.alloc ?_ (by first | omega | (simp; done) | (simp; omega)) _) | (with_reducible refine Below.setCell ?_ (by first | omega | (simp; done) | (simp; omega)) _) | (with_reducible refine Below.trans ?_ (Below.mono (by assumption) (by first | omega | (simp; done) | (simp; omega))))))⟩
  · have hlt' : ¬ (n : Int) < 10 := by omega
    obtain ⟨q, hq⟩ : ∃ q : Int, q = (n : Int) / 10 := ⟨_, rfl⟩
    obtain ⟨r, hr⟩ : ∃ r : Int, r = ((n % 10 : Nat) : Int) := ⟨_, rfl⟩
    obtain ⟨d, hd⟩ : ∃ d : Int, d = 48 + r := ⟨_, rfl⟩
    have IH : Hid (∀ w, Calls Tryd.prog 30 #[.int .i64 q] w fun e w' => e = .returned (.string ⟨(Lib.decDigits (n / 10)).toArray⟩) ∧ Below w.heap.size w w') := by
      intro w
      have := ih (n / 10) (by omega) w (by omega)
      rwa [show ((n / 10 : Nat) : Int) = q by omega] at this
    have a1 : IntKind.i64.wrap ((n : Int) / 10) = q := by rw [IntKind.wrap_i64]; omega
    have a2 : (n : Int).tmod 10 = r := by rw [Int.tmod_eq_emod_of_nonneg (by omega)]; omega
    have a3 : IntKind.i64.wrap (48 + r) = d := by rw [IntKind.wrap_i64]; omega
    have a4 : IntKind.u8.wrap d = d := by simp [IntKind.wrap, IntKind.bits, IntKind.signed]; omega
    obtain ⟨u, hu⟩ : ∃ u, u = UInt8.ofNat (48 + n % 10) := ⟨_, rfl⟩
    obtain ⟨l, hl⟩ : ∃ l, l = Lib.decDigits (n / 10) := ⟨_, rfl⟩
    have HD : Hid (Lib.decDigits n = l ++ [u]) := by
      show _ = _
      rw [Lib.decDigits, dif_neg (by omega), hl, hu]
    have HU := Lib.hid (show d = (u.toNat : Int) by rw [hu, hd, hr]; exact dig_u8 _ (by omega))
    rw [← hl] at IH
    have hcv := conv_lit (w := (w.alloc (.cells #[.int .u8 d] 5 (0, 0))).drew) (g := w.heap.size) u HU.out (al_blk _ _)
    have e9 : (⟨l.toArray⟩ : ByteArray) ++ ⟨#[u]⟩ = ⟨(l ++ [u]).toArray⟩ := dec_app l [u]
    have hlx : ¬ 9223372036854775807 < l.length + 1 := by
      have h1 := Lib.itoa_length_le ((n / 10 : Nat) : Int) (by omega) (by omega)
      rw [Lib.itoa_nonneg, ← hl] at h1
      omega
    clear ih hr hu hl hq hd
    go_enter Tryd.func30, Tryd.ntmps30
    go_wp2_with fail
    (refine wp_region_noPanic ?_; refine wp_region_held_drew (S := fun _ : World => True) (by kernel_rfl) ?q1xb (fun hHeld => ?_); (case q1xb => ((try dsimp only); (all_goals exact trivial))); refine wpAnyH_take (i := 0) (v := ?q1x1nv0) (by simp only [List.getElem?_toArray, List.getElem?_cons_zero]; exact rfl) (by kernel_rfl) (by kernel_rfl) (by kernel_rfl) (fun _ _ _ h => h) (Or.inl ⟨by rfl, ?q1x1ny0⟩) (by assumption) ?_; (case q1x1ny0 => (intro w hSw; (try dsimp only at hSw); go_simp; (try with_reducible rfl))); (try simp only [Act.put, List.setIfInBounds_toArray, List.set_cons_zero, List.set_cons_succ]); refine wpAnyH_take (i := 1) (v := ?q1x1nv1) (by simp only [List.getElem?_toArray, List.getElem?_cons_zero, List.getElem?_cons_succ]; exact rfl) (by kernel_rfl) (by kernel_rfl) (by kernel_rfl) (fun _ _ _ h => h) (Or.inl ⟨by rfl, ?q1x1ny1⟩) (by assumption) ?_; (case q1x1ny1 => (intro w hSw; (try dsimp only at hSw); go_simp; (try with_reducible rfl))); (try simp only [Act.put, List.setIfInBounds_toArray, List.set_cons_zero, List.set_cons_succ]); refine wpAnyH_take (i := 3) (v := ?q1x1nv3) (by simp only [List.getElem?_toArray, List.getElem?_cons_zero, List.getElem?_cons_succ]; exact rfl) (by kernel_rfl) (by kernel_rfl) (by kernel_rfl) (fun _ _ _ h => h) (Or.inl ⟨by rfl, ?q1x1ny3⟩) (by assumption) ?_; (case q1x1ny3 => (intro w hSw; (try dsimp only at hSw); go_simp; (try with_reducible rfl))); (try simp only [Act.put, List.setIfInBounds_toArray, List.set_cons_zero, List.set_cons_succ]); refine wpAnyH_take (i := 4) (v := ?q1x1nv4) (by simp only [List.getElem?_toArray, List.getElem?_cons_zero, List.getElem?_cons_succ]; exact rfl) (by kernel_rfl) (by kernel_rfl) (by kernel_rfl) (fun _ _ _ h => h) (Or.inl ⟨by rfl, ?q1x1ny4⟩) (by assumption) ?_; (case q1x1ny4 => (intro w hSw; (try dsimp only at hSw); go_simp; (try with_reducible rfl))); (try simp only [Act.put, List.setIfInBounds_toArray, List.set_cons_zero, List.set_cons_succ]); refine wpAnyH_take (i := 5) (v := ?q1x1nv5) (by simp only [List.getElem?_toArray, List.getElem?_cons_zero, List.getElem?_cons_succ]; exact rfl) (by kernel_rfl) (by kernel_rfl) (by kernel_rfl) (fun _ _ _ h => h) (Or.inl ⟨by rfl, ?q1x1ny5⟩) (by assumption) ?_; (case q1x1ny5 => (intro w hSw; (try dsimp only at hSw); go_simp; (try with_reducible rfl))); (try simp only [Act.put, List.setIfInBounds_toArray, List.set_cons_zero, List.set_cons_succ]); refine wpAnyH_take (i := 6) (v := ?q1x1nv6) (by simp only [List.getElem?_toArray, List.getElem?_cons_zero, List.getElem?_cons_succ]; exact rfl) (by kernel_rfl) (by kernel_rfl) (by kernel_rfl) (fun _ _ _ h => h) (Or.inl ⟨by rfl, ?q1x1ny6⟩) (by assumption) ?_; (case q1x1ny6 => (intro w hSw; (try dsimp only at hSw); go_simp; (try with_reducible rfl))); (try simp only [Act.put, List.setIfInBounds_toArray, List.set_cons_zero, List.set_cons_succ]); refine wpAnyH_ready (rs := [2, 7]) (by kernel_rfl) (by simp) ?_; refine (AllReadyH.cons (by simp only [List.getElem?_toArray, List.getElem?_cons_zero, List.getElem?_cons_succ]; exact rfl) (fun K hK => ?_) (AllReadyH.cons (by simp only [List.getElem?_toArray, List.getElem?_cons_zero, List.getElem?_cons_succ]; exact rfl) (fun K hK => ?_) AllReadyH.nil)); (focus (go_simp; (go_at_call 30; refine (IH.out _).mono ?_; rintro e w' ⟨rfl, hb⟩; (try have hcv2 := conv_keep u HU.out hb w.heap.size rfl); have hcv1 := conv_lit (w := w'.alloc (.cells #[.int .u8 d] 5 (0, 0))) (g := w'.heap.size) u HU.out (heap_at _ rfl); have HB := Lib.hid hb; clear hb); (try go_wp2_with fail); refine hK.out _ _ ?q1x2ns2 (fun hHeld => ?_); (case q1x2ns2 => ((try dsimp only); (all_goals exact trivial))); clear hK K; (try simp only [Act.put, List.setIfInBounds_toArray, List.set_cons_zero, List.set_cons_succ]); refine wpAnyH_ready (rs := [7]) (by kernel_rfl) (by simp) ?_; refine AllReadyH.cons (by simp only [List.getElem?_toArray, List.getElem?_cons_zero, List.getElem?_cons_succ]; exact rfl) (fun K hK => ?_) AllReadyH.nil; go_simp; refine hK.out _ _ ?q1x2ns7 (fun hHeld => ?_); (case q1x2ns7 => ((try dsimp only); (all_goals exact trivial))); clear hK K; (try simp only [Act.put, List.setIfInBounds_toArray, List.set_cons_zero, List.set_cons_succ]); refine wpAnyH_ready (rs := [8]) (by kernel_rfl) (by simp) ?_; refine AllReadyH.cons (by simp only [List.getElem?_toArray, List.getElem?_cons_zero, List.getElem?_cons_succ]; exact rfl) (fun K hK => ?_) AllReadyH.nil; go_simp; refine hK.out _ _ ?q1x2ns8 (fun hHeld => ?_); (case q1x2ns8 => ((try dsimp only); (all_goals exact trivial))); clear hK K; (try simp only [Act.put, List.setIfInBounds_toArray, List.set_cons_zero, List.set_cons_succ]); refine wpAnyH_take (i := 9) (v := ?q1x2nv9) (by simp only [List.getElem?_toArray, List.getElem?_cons_zero, List.getElem?_cons_succ]; exact rfl) (by kernel_rfl) (by kernel_rfl) (by kernel_rfl) (fun _ _ _ h => h) (Or.inl ⟨by rfl, ?q1x2ny9⟩) (by assumption) ?_; (case q1x2ny9 => (intro w hSw; (try dsimp only at hSw); go_simp; (try with_reducible rfl))); (try simp only [Act.put, List.setIfInBounds_toArray, List.set_cons_zero, List.set_cons_succ]); refine wpAnyH_take (i := 10) (v := ?q1x2nv10) (by simp only [List.getElem?_toArray, List.getElem?_cons_zero, List.getElem?_cons_succ]; exact rfl) (by kernel_rfl) (by kernel_rfl) (by kernel_rfl) (fun _ _ _ h => h) (Or.inl ⟨by rfl, ?q1x2ny10⟩) (by assumption) ?_; (case q1x2ny10 => (intro w hSw; (try dsimp only at hSw); go_simp; (try with_reducible rfl))); (try simp only [Act.put, List.setIfInBounds_toArray, List.set_cons_zero, List.set_cons_succ]); refine wpAnyH_done (by kernel_rfl) ?_ _; refine NoPanic.normal ?_)); rotate_left 1; (focus (go_simp; refine hK.out _ _ ?q1x3ns7 (fun hHeld => ?_); (case q1x3ns7 => ((try dsimp only); (all_goals exact trivial))); clear hK K; (try simp only [Act.put, List.setIfInBounds_toArray, List.set_cons_zero, List.set_cons_succ]); refine wpAnyH_ready (rs := [2, 8]) (by kernel_rfl) (by simp) ?_; refine (AllReadyH.cons (by simp only [List.getElem?_toArray, List.getElem?_cons_zero, List.getElem?_cons_succ]; exact rfl) (fun K hK => ?_) (AllReadyH.cons (by simp only [List.getElem?_toArray, List.getElem?_cons_zero, List.getElem?_cons_succ]; exact rfl) (fun K hK => ?_) AllReadyH.nil)); (focus (go_simp; (go_at_call 30; refine (IH.out _).mono ?_; rintro e w' ⟨rfl, hb⟩; (try have hcv2 := conv_keep u HU.out hb w.heap.size rfl); have hcv1 := conv_lit (w := w'.alloc (.cells #[.int .u8 d] 5 (0, 0))) (g := w'.heap.size) u HU.out (heap_at _ rfl); have HB := Lib.hid hb; clear hb); (try go_wp2_with fail); refine hK.out _ _ ?q1x4ns2 (fun hHeld => ?_); (case q1x4ns2 => ((try dsimp only); (all_goals exact trivial))); clear hK K; (try simp only [Act.put, List.setIfInBounds_toArray, List.set_cons_zero, List.set_cons_succ]); refine wpAnyH_ready (rs := [8]) (by kernel_rfl) (by simp) ?_; refine AllReadyH.cons (by simp only [List.getElem?_toArray, List.getElem?_cons_zero, List.getElem?_cons_succ]; exact rfl) (fun K hK => ?_) AllReadyH.nil; go_simp; refine hK.out _ _ ?q1x4ns8 (fun hHeld => ?_); (case q1x4ns8 => ((try dsimp only); (all_goals exact trivial))); clear hK K; (try simp only [Act.put, List.setIfInBounds_toArray, List.set_cons_zero, List.set_cons_succ]); refine wpAnyH_take (i := 9) (v := ?q1x4nv9) (by simp only [List.getElem?_toArray, List.getElem?_cons_zero, List.getElem?_cons_succ]; exact rfl) (by kernel_rfl) (by kernel_rfl) (by kernel_rfl) (fun _ _ _ h => h) (Or.inl ⟨by rfl, ?q1x4ny9⟩) (by assumption) ?_; (case q1x4ny9 => (intro w hSw; (try dsimp only at hSw); go_simp; (try with_reducible rfl))); (try simp only [Act.put, List.setIfInBounds_toArray, List.set_cons_zero, List.set_cons_succ]); refine wpAnyH_take (i := 10) (v := ?q1x4nv10) (by simp only [List.getElem?_toArray, List.getElem?_cons_zero, List.getElem?_cons_succ]; exact rfl) (by kernel_rfl) (by kernel_rfl) (by kernel_rfl) (fun _ _ _ h => h) (Or.inl ⟨by rfl, ?q1x4ny10⟩) (by assumption) ?_; (case q1x4ny10 => (intro w hSw; (try dsimp only at hSw); go_simp; (try with_reducible rfl))); (try simp only [Act.put, List.setIfInBounds_toArray, List.set_cons_zero, List.set_cons_succ]); refine wpAnyH_done (by kernel_rfl) ?_ _; refine NoPanic.normal ?_)); rotate_left 1; (focus (go_simp; refine hK.out _ _ ?q1x5ns8 (fun hHeld => ?_); (case q1x5ns8 => ((try dsimp only); (all_goals exact trivial))); clear hK K; (try simp only [Act.put, List.setIfInBounds_toArray, List.set_cons_zero, List.set_cons_succ]); refine wpAnyH_ready (rs := [2]) (by kernel_rfl) (by simp) ?_; refine AllReadyH.cons (by simp only [List.getElem?_toArray, List.getElem?_cons_zero, List.getElem?_cons_succ]; exact rfl) (fun K hK => ?_) AllReadyH.nil; go_simp; (go_at_call 30; refine (IH.out _).mono ?_; rintro e w' ⟨rfl, hb⟩; (try have hcv2 := conv_keep u HU.out hb w.heap.size rfl); have hcv1 := conv_lit (w := w'.alloc (.cells #[.int .u8 d] 5 (0, 0))) (g := w'.heap.size) u HU.out (heap_at _ rfl); have HB := Lib.hid hb; clear hb); (try go_wp2_with fail); refine hK.out _ _ ?q1x5ns2 (fun hHeld => ?_); (case q1x5ns2 => ((try dsimp only); (all_goals exact trivial))); clear hK K; (try simp only [Act.put, List.setIfInBounds_toArray, List.set_cons_zero, List.set_cons_succ]); refine wpAnyH_take (i := 9) (v := ?q1x5nv9) (by simp only [List.getElem?_toArray, List.getElem?_cons_zero, List.getElem?_cons_succ]; exact rfl) (by kernel_rfl) (by kernel_rfl) (by kernel_rfl) (fun _ _ _ h => h) (Or.inl ⟨by rfl, ?q1x5ny9⟩) (by assumption) ?_; (case q1x5ny9 => (intro w hSw; (try dsimp only at hSw); go_simp; (try with_reducible rfl))); (try simp only [Act.put, List.setIfInBounds_toArray, List.set_cons_zero, List.set_cons_succ]); refine wpAnyH_take (i := 10) (v := ?q1x5nv10) (by simp only [List.getElem?_toArray, List.getElem?_cons_zero, List.getElem?_cons_succ]; exact rfl) (by kernel_rfl) (by kernel_rfl) (by kernel_rfl) (fun _ _ _ h => h) (Or.inl ⟨by rfl, ?q1x5ny10⟩) (by assumption) ?_; (case q1x5ny10 => (intro w hSw; (try dsimp only at hSw); go_simp; (try with_reducible rfl))); (try simp only [Act.put, List.setIfInBounds_toArray, List.set_cons_zero, List.set_cons_succ]); refine wpAnyH_done (by kernel_rfl) ?_ _; refine NoPanic.normal ?_)); rotate_left 1)); rotate_left 2)
    all_goals (go_wp2; go_ret; refine ⟨by rw [HD.out]; rfl, ?_⟩)
    · have hb := (Below.refl w.heap.size w).drew.trans HB.out
      exact hb.alloc hb.size _
    all_goals exact ((Below.refl w.heap.size w).alloc (Nat.le_refl _) _).drew.trans (HB.out.mono (by show w.heap.size ≤ (w.alloc (.cells #[.int .u8 d] 5 (0, 0))).heap.size; simp))
set_option maxHeartbeats 4000000 in
set_option maxRecDepth 100000 in
theorem ref_EventWord {k : Nat} (h : 1 ≤ k ∧ k ≤ 7) (w : World) : Calls Tryd.prog 29 #[.int .i64 (k : Int)] w fun e w' => e = .returned (.string ⟨(wordB k).toArray⟩) ∧ Below w.heap.size w w' := by
  rcases (show k = 1 ∨ k = 2 ∨ k = 3 ∨ k = 4 ∨ k = 5 ∨ k = 6 ∨ k = 7 by omega) with rfl | rfl | rfl | rfl | rfl | rfl | rfl
  all_goals (
    go_enter Tryd.func29, Tryd.ntmps29
    go_wp2
    go_ret
    exact ⟨rfl, Below.refl _ _⟩)
end Go.Proofs.YtnebijdifemicaaDoor
