import Derived.Test.YtccphilpfmfagaaDoorW1
import Derived.Test.YtccphilpfmfagaaDoorA9
import Derived.Test.YtccphilpfmfagaaDoorP10
import Derived.Test.YtccphilpfmfagaaDoorShelf
namespace Go.Proofs.YtccphilpfmfagaaDoor
open Go.RowKit Go.Abs
set_option maxRecDepth 100000
set_option maxHeartbeats 4000000
set_option linter.unusedSimpArgs false
set_option linter.unusedVariables false
def tabO : O := .tab 2 (Lib.pow10Tab.map fun z => Value.int .u64 z)
def synO (te : TypeId) (pe : Value) : O := .tab 0 [.iface te pe]
def ranO (te : TypeId) (pe : Value) : O := .tab 1 [.iface te pe]
@[go_sem ↓ 10000] theorem tabO_refs (m : Nat) : tabO.refsLt m = true := rfl
@[go_sem ↓ 10000] theorem synO_refs (te : TypeId) (pe : Value) (m : Nat) : (synO te pe).refsLt m = true := rfl
@[go_sem ↓ 10000] theorem ranO_refs (te : TypeId) (pe : Value) (m : Nat) : (ranO te pe).refsLt m = true := rfl
def pIN (l : List UInt8) : Int := (pInt l).getD 0
theorem iPI_raw (l : List UInt8) (hl : l.length ≤ 1048576) (te tr : TypeId) (pe pr : Value) (w : World) (htab : Lib.TabIs Tryd.prog w "internal/strconv.uint64pow10" .u64 Lib.pow10Tab)
  (hv0 : w.cell? ⟨0, 0, none⟩ = some (.iface te pe)) (hv1 : w.cell? ⟨1, 0, none⟩ = some (.iface tr pr)) :
  Calls Tryd.prog 69 #[.string ⟨l.toArray⟩] w fun e w' => e = .returned (.tuple #[.int .i64 (pIN l), .bool (pInt l).isSome]) ∧ Below w.heap.size w w' := by
 have hsz : (⟨l.toArray⟩ : ByteArray).size = l.length := rfl
 have hll : (⟨l.toArray⟩ : ByteArray).data.toList = l := rfl
 rcases h : Lib.atoiAll l with v | _ | _
 ·
  have hb := Lib.atoiAll_bounds h
  have hat := fun w => Tryd.strconv_Atoi_ok ⟨l.toArray⟩ (by rw [hsz]; omega) v h w
  have hp : pInt l = if dec v = l then some v else none := by unfold pInt; rw [h]
  go_enter Tryd.func69, Tryd.ntmps69
  go_wp2_with (go_at_call 83; refine (hat _).mono ?_; rintro e W1 ⟨rfl, hW⟩)
  have hb1 : Below w.heap.size w W1 := by
   rcases hW with rfl | ⟨t, rfl⟩
   ·exact Below.refl _ _
   ·exact Lib.bytesWorld_below _ _ _
  clear hW
  have htab1 : Lib.TabIs Tryd.prog W1 "internal/strconv.uint64pow10" .u64 Lib.pow10Tab := by
   have hg : Tryd.prog.globalNamed "internal/strconv.uint64pow10" = some 2 := by kernel_rfl
   unfold Lib.TabIs World.var? at htab ⊢
   simp only [hg, Option.bind_some] at htab ⊢
   rw [hb1.block _ (by
    rcases Nat.lt_or_ge 2 w.heap.size with k | k
    ·exact k
    ·simp [Array.getElem?_eq_none k] at htab)]
   exact htab
  have hb2 : ∀ (k : Nat) (os : Array Obj), Below w.heap.size w (Sort.grow (W1.drewN k) os) := fun k os => hb1.trans ⟨rfl, rfl, rfl, by show _ ≤ (W1.heap ++ os).size; simp, fun b hlt => by
   show (W1.heap ++ os)[b]? = _
   exact Array.getElem?_append_left (Nat.lt_of_lt_of_le hlt hb1.size)⟩
  have hit := Tryd.strconv_Itoa v hb.1 hb.2 W1 htab1
  go_wp2_with (go_at_call 75; refine hit.mono ?_; rintro e W2 ⟨rfl, k, os, hW2⟩)
  ·rename_i hq
   have hne : ¬ dec v = l := by
    have hq' : ¬ Lib.itoa v = l := by simpa using hq
    exact hq'
   rw [if_neg hne] at hp
   rw [hp, show pIN l = 0 from by unfold pIN; rw [hp]; rfl]
   go_ret2
   exact ⟨rfl, hb2 k os⟩
  ·rename_i hq
   have hne : dec v = l := by
    have hq' : Lib.itoa v = l := by simpa using hq
    exact hq'
   rw [if_pos hne] at hp
   rw [hp, show pIN l = v from by unfold pIN; rw [hp]; rfl]
   go_ret2
   exact ⟨rfl, hb2 k os⟩
 ·
  have hp : pInt l = none := by unfold pInt; rw [h]
  rw [hp, show pIN l = 0 from by unfold pIN; rw [hp]; rfl]
  go_enter Tryd.func69, Tryd.ntmps69
  go_wp2_with (go_at_call 83; refine (Tryd.strconv_Atoi_syntax ⟨l.toArray⟩ (by rw [hsz]; omega) h _ _ hv0 (.inr ⟨te, pe, rfl⟩)).mono ?_; rintro e W1 ⟨N, rfl, -, -, hb⟩)
  go_ret2
  exact ⟨rfl, hb⟩
 ·
  have hp : pInt l = none := by unfold pInt; rw [h]
  rw [hp, show pIN l = 0 from by unfold pIN; rw [hp]; rfl]
  go_enter Tryd.func69, Tryd.ntmps69
  go_wp2_with (go_at_call 83; refine (Tryd.strconv_Atoi_range ⟨l.toArray⟩ (by rw [hsz]; omega) h _ _ hv1 (.inr ⟨tr, pr, rfl⟩)).mono ?_; rintro e W1 ⟨N, rfl, -, -, hb⟩)
  go_ret2
  exact ⟨rfl, hb⟩
def pIC (l : List UInt8) : C := .tup [.d (.int .i64 (pIN l)), .d (.bool (pInt l).isSome)]
theorem pIC_none {l : List UInt8} (h : pInt l = none) : pIC l = .tup [.d (.int .i64 0), .d (.bool false)] := by unfold pIC pIN; rw [h]; rfl
theorem pIC_some {l : List UInt8} {n : Int} (h : pInt l = some n) : pIC l = .tup [.d (.int .i64 n), .d (.bool true)] := by unfold pIC pIN; rw [h]; rfl
def loO (te tr : TypeId) (pe pr : Value) : List O := [tabO, synO te pe, ranO tr pr]
theorem iParseInt_R (l : List UInt8) (hl : l.length ≤ 1048576) (te tr : TypeId) (pe pr : Value) : ACalls Tryd.prog 69 [.d (.str l)] (loO te tr pe pr) (fun c H' => c = pIC l ∧ H' = loO te tr pe pr) := by
 intro E vs hE hsz ha
 obtain ⟨v, rfl⟩ : ∃ v, vs = #[v] := by
  match vs, hsz with
  | ⟨[v]⟩, _ => exact ⟨v, rfl⟩
 have hv := ha 0 _ v rfl rfl
 cases hv with
 | d _ _ hd =>
  cases hd
  have ht := hE.obj 0 _ rfl
  have h1 := hE.obj 1 _ rfl
  have h2 := hE.obj 2 _ rfl
  refine (iPI_raw l hl te tr pe pr E.w (tab_is (by kernel_rfl) (by decide) (fun j hj => (ht j hj).2)) ((h1 0 (Nat.zero_le _)).2) ((h2 0 (Nat.zero_le _)).2)).mono ?_
  rintro e w' ⟨rfl, hb⟩
  obtain ⟨hle, hH⟩ := rep_below hE hb
  refine ⟨_, pIC l, _, _, rfl, rfl, hH, hle, ?_, rfl, rfl, rfl⟩
  refine .tup _ _ rfl (fun i c v h3 h4 => ?_)
  match i with
  | 0 => simp at h3 h4; subst h3 h4; exact .d _ _ (.int _ _)
  | 1 => simp at h3 h4; subst h3 h4; exact .d _ _ (.bool _)
  | i + 2 => simp at h3
end Go.Proofs.YtccphilpfmfagaaDoor
