import Derived.Test.YtccphilpfmfagaaDoorFx
import Derived.Test.YtccphilpfmfagaaDoorA9
import Derived.Test.YtccphilpfmfagaaDoorShelf
namespace Go.Proofs.YtccphilpfmfagaaDoor
open Go.RowKit Go.Abs
set_option maxRecDepth 100000
set_option maxHeartbeats 4000000
set_option linter.unusedSimpArgs false
set_option linter.unusedVariables false
theorem bck_fresh (b : Nat) (w : World) (h0 : w.cell? ⟨b, 0, none⟩ = some (.pointer none)) (hsh : w.shape? b = some (57, 2)) (hfz : w.frozen? ⟨b, 0, none⟩ = false) :
  Calls Tryd.prog 74 #[.pointer (some ⟨b, 0, none⟩)] w fun e w' => e = .returned (.tuple #[]) ∧ w' = w.setCell ⟨b, 0, none⟩ (.pointer (some ⟨b, 0, none⟩)) := by
 obtain ⟨j, hj, hjs⟩ := Option.map_eq_some_iff.1 (show (Tryd.prog.info? 57).map (·.size) = some 2 by kernel_rfl)
 go_enter Tryd.func74, Tryd.ntmps74
 go_wp2
 rw [Lib.run_to_unsafe w ⟨b, 0, none⟩ Tryd.underlying55 Tryd.underlying100 hj (by rw [hjs]; decide) hsh (Nat.zero_lt_succ 1)]
 simp only [Result.andThen]
 rw [Oper.upon_value]
 go_wp2
 rw [run_callFunc_extern Tryd.func84 (by kernel_rfl) (by kernel_rfl) (by kernel_rfl) (e := Extern.AbiNoEscape.same) (by kernel_rfl)]
 rw [Lib.run_noEscape]
 simp only [Result.andThen]
 rw [Oper.upon_value]
 go_wp2
 rw [Lib.run_from_unsafe w ⟨b, 0, none⟩ Tryd.underlying100 Tryd.underlying55 hj hsh (by kernel_rfl)]
 simp only [Result.andThen]
 rw [Oper.upon_value]
 go_wp2
 go_end0
 exact ⟨rfl, rfl⟩
theorem bck_used (b : Nat) (w : World) (h0 : w.cell? ⟨b, 0, none⟩ = some (.pointer (some ⟨b, 0, none⟩))) :
  Calls Tryd.prog 74 #[.pointer (some ⟨b, 0, none⟩)] w fun e w' => e = .returned (.tuple #[]) ∧ w' = w := by
 obtain ⟨j, hj, hjs⟩ := Option.map_eq_some_iff.1 (show (Tryd.prog.info? 57).map (·.size) = some 2 by kernel_rfl)
 go_enter Tryd.func74, Tryd.ntmps74
 go_wp2
 rw [Lib.run_neq_ptr_same w _ Tryd.underlying55 hj]
 go_wp2
 go_end0
 exact ⟨rfl, rfl⟩
theorem bws_exact (b : Nat) (p v : Value) (bs l : List UInt8) (w : World) (hp : p = .pointer none ∨ p = .pointer (some ⟨b, 0, none⟩))
  (hb : w.heap[b]? = some (.cells #[p, v] 57 (0, 0))) (hv : RowB w 5 v bs) (hne : ownB v ≠ some b) (hm : bs.length + l.length ≤ maxLen) (hby : (bs.length + l.length) * 1 ≤ 140737488355328) :
  Calls Tryd.prog 50 #[.pointer (some ⟨b, 0, none⟩), .string ⟨l.toArray⟩] w fun e w' => e = .returned (.tuple #[.int .i64 l.length, .nilIface]) ∧
   ∃ v' w2, w' = w2.setCell ⟨b, 1, none⟩ v' ∧ w2.heap[b]? = some (.cells #[.pointer (some ⟨b, 0, none⟩), v] 57 (0, 0)) ∧ RowB w2 5 v' (bs ++ l) ∧
    w2.os = w.os ∧ w2.tape = w.tape ∧ w2.output = w.output ∧ w.heap.size ≤ w2.heap.size ∧ (∀ k, k < w.heap.size → k ≠ b → ownB v ≠ some k → w2.heap[k]? = w.heap[k]?) ∧
    (∀ k, ownB v' = some k → ownB v = some k ∨ w.heap.size ≤ k) := by
 have hcc : Calls Tryd.prog 74 #[.pointer (some ⟨b, 0, none⟩)] w fun e w1 => e = .returned (.tuple #[]) ∧ w1.heap[b]? = some (.cells #[.pointer (some ⟨b, 0, none⟩), v] 57 (0, 0)) ∧
   (∀ k, k ≠ b → w1.heap[k]? = w.heap[k]?) ∧ w1.heap.size = w.heap.size ∧ w1.os = w.os ∧ w1.tape = w.tape ∧ w1.output = w.output := by
  have c0 : w.cell? ⟨b, 0, none⟩ = some p := by rw [Lib.cell_of_heap hb]; rfl
  rcases hp with rfl | rfl
  ·refine (bck_fresh b w c0 (by simp [World.shape?, hb]) (Lib.frozen_of_heap hb 0)).mono ?_
   rintro e w' ⟨rfl, rfl⟩
   exact ⟨rfl, by rw [heap_setCell_same _ _ _ _ _ _ hb]; rfl, fun k hk => heap_setCell_other _ _ _ _ hk, by simp, rfl, rfl, rfl⟩
  ·refine (bck_used b w c0).mono ?_
   rintro e w' ⟨rfl, rfl⟩
   exact ⟨rfl, hb, fun _ _ => rfl, rfl, rfl, rfl, rfl⟩
 go_enter Tryd.func50, Tryd.ntmps50
 go_wp2_with (go_at_call 74; refine hcc.mono ?_)
 rintro e w1 ⟨rfl, hbk, hk1, hs1, ho1, ht1, hq1⟩
 have hv1 : RowB w1 5 v bs := hv.same fun k hk => hk1 k (fun e => hne (by rw [← e]; exact hk))
 have c0 : w1.cell? ⟨b, 0, none⟩ = some (.pointer (some ⟨b, 0, none⟩)) := by rw [Lib.cell_of_heap hbk]; rfl
 have c1 : w1.cell? ⟨b, 1, none⟩ = some v := by rw [Lib.cell_of_heap hbk]; rfl
 go_wp2_with (at_builtin; refine wp_append_row rfl _ _ 22 9 rfl (by kernel_rfl) (by kernel_rfl) rfl hv1 rfl hm hby ?_)
 intro v' w2 hr hA
 have hlt : b < w1.heap.size := (Array.getElem?_eq_some_iff.1 hbk).1
 have hb2 : w2.heap[b]? = some (.cells #[.pointer (some ⟨b, 0, none⟩), v] 57 (0, 0)) := by
  rw [hA.blk b hlt hne]
  exact hbk
 have d0 : w2.cell? ⟨b, 0, none⟩ = some (.pointer (some ⟨b, 0, none⟩)) := by rw [Lib.cell_of_heap hb2]; rfl
 have d1 : w2.cell? ⟨b, 1, none⟩ = some v := by rw [Lib.cell_of_heap hb2]; rfl
 have f1 : w2.frozen? ⟨b, 1, none⟩ = false := Lib.frozen_of_heap hb2 1
 obtain ⟨ao, n', cap, rfl⟩ : ∃ ao n' cap, v' = .slice ao n' cap := by
  rcases hr with ⟨a, hv, _⟩ | ⟨g, cap, cur, hv, _⟩
  ·exact ⟨_, _, _, hv⟩
  ·exact ⟨_, _, _, hv⟩
 go_wp2
 go_ret2
 refine ⟨by simp, _, w2, rfl, hb2, hr, hA.os.trans ho1, hA.tape.trans ht1, hA.output.trans hq1, by rw [← hs1]; exact hA.size, fun k hk hkb hkv => (hA.blk k (by rw [hs1]; exact hk) hkv).trans (hk1 k hkb), fun k hk => ?_⟩
 rcases hA.new k hk with h | h
 ·exact .inl h
 ·exact .inr (by rw [← hs1]; exact h)
theorem bstr_exact (b g cap : Nat) (p : Value) (cur : Array Value) (l : List UInt8) (w : World)
  (hb : w.heap[b]? = some (.cells #[p, .slice (some ⟨g, 0, none⟩) l.length cap] 57 (0, 0))) (hg : w.heap[g]? = some (.cells cur 5 (0, 0)))
  (h0 : l ≠ []) (hc : l.length ≤ cap) (hm : cap ≤ maxLen) (hs : cur.size = cap) (ht : ∀ (j : Nat) (x : UInt8), l[j]? = some x → cur[j]? = some (.int .u8 x.toNat)) :
  Calls Tryd.prog 29 #[.pointer (some ⟨b, 0, none⟩)] w fun e w' => e = .returned (.string ⟨l.toArray⟩) ∧ w' = w.drew.freeze ⟨g, 0, none⟩ l.length := by
 have hl0 : l.length ≠ 0 := by simpa using h0
 have c1 : w.drew.cell? ⟨b, 1, none⟩ = some (.slice (some ⟨g, 0, none⟩) l.length cap) := by
  have : w.drew.heap[b]? = some (.cells #[p, .slice (some ⟨g, 0, none⟩) l.length cap] 57 (0, 0)) := hb
  rw [Lib.cell_of_heap this]; rfl
 have hg' : w.drew.heap[g]? = some (.cells cur 5 (0, 0)) := hg
 have hSD : ∀ ts ty, (Builtin.unsafeSliceData_ ts ty #[.slice (some ⟨g, 0, none⟩) l.length cap]).run Tryd.prog w.drew = .ok (.pointer (some ⟨g, 0, none⟩)) w.drew :=
  fun _ _ => Lib.run_unsafeSliceData_row _ _ _ _ _ _ (by omega)
 have hUS : (Builtin.unsafeString_ #[79, 3] 9 #[.pointer (some ⟨g, 0, none⟩), .int .i64 l.length]).run Tryd.prog w.drew = .ok (.string ⟨l.toArray⟩) (w.drew.freeze ⟨g, 0, none⟩ l.length) := by
  refine Lib.run_unsafeString_row w.drew 79 3 9 5 Tryd.underlying79 (by kernel_rfl) g cur.size (by simp [World.shape?, hg']) l h0 (by omega) (by unfold maxLen at hm; omega) ?_
  intro j x hx
  rw [Abs.Addr.add_mk, Nat.zero_add, Lib.cell_of_heap hg']
  exact ht j x hx
 have mixed : Tryd.prog.follows .mixedOrders = true := by kernel_rfl
 go_enter Tryd.func29, Tryd.ntmps29
 go_wp2
 go_region_o
 all_goals (go_wp2; go_ret; exact ⟨rfl, rfl⟩)
end Go.Proofs.YtccphilpfmfagaaDoor
