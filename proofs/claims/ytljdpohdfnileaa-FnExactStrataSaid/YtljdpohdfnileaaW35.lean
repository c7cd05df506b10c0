/- The strata: the program's. -/
import Derived.Test.YtljdpohdfnileaaW7
import Derived.Test.YtljdpohdfnileaaW13
import Derived.Test.YtljdpohdfnileaaP4
namespace Go.Proofs.Ytljdpohdfnileaa
open Go.Abs
set_option maxRecDepth 100000
set_option maxHeartbeats 4000000
set_option linter.unusedSimpArgs false
set_option linter.unusedVariables false

theorem intsD_g {l : List Int} {i : Nat} (h : i < l.length) : (intsD l)[i]? = some [.int .i64 (l.getD i 0)] := by
  have : l[i]? = some (l.getD i 0) := by rw [List.getD_eq_getElem?_getD, List.getElem?_eq_getElem h]; rfl
  exact intsD_at this
/-- Between two relations. -/
structure Btw (p : Pg) (T : Int) (n0 : List Int) (k : Nat) (n : List Int) (ch : Bool) : Prop where
  len : n.length = p.rels.length
  low : p.Low n
  bnd : ∀ j, j < n.length → 0 ≤ n.getD j 0 ∧ n.getD j 0 ≤ T
  same : ch = false → n = n0 ∧ ∀ i r, i < k → p.rels[i]? = some r → ∀ e, e ∈ r.edges → p.sat n0 i e
  grew : ch = true → n0.sum < n.sum
/-- At a round's begin. -/
structure Hd (p : Pg) (T : Int) (n : List Int) (ch : Bool) : Prop where
  len : n.length = p.rels.length
  low : p.Low n
  bnd : ∀ j, j < n.length → 0 ≤ n.getD j 0 ∧ n.getD j 0 ≤ T
  sol : ch = false → p.Sol n
def muS (p : Pg) (T : Int) (a : List Int × Bool) : Nat := 2 * ((p.rels.length : Int) * T - a.1.sum).toNat + (if a.2 = true then 1 else 0)
def stR (ok : Bool) (V : List Int) (c : C) (H' : List O) : Prop := c = .tup [.own 0 1, .d (.bool ok)] ∧ ∃ e B, H' = [.tree 1 1 e (intsD V) B none]
theorem hd0 (p : Pg) {T : Int} (hT : 0 ≤ T) : Hd p T (List.replicate p.rels.length 0) true := by
  have h0 : ∀ j : Nat, (List.replicate p.rels.length (0 : Int)).getD j 0 = 0 := fun j => by
    rw [List.getD_eq_getElem?_getD, List.getElem?_replicate]
    split <;> rfl
  refine ⟨by simp, fun s hs j => ?_, fun j hj => by rw [h0]; omega, fun h => by cases h⟩
  rw [h0]
  by_cases hj : j < s.length
  · exact hs.2.1 j hj
  · rw [List.getD_eq_getElem?_getD, List.getElem?_eq_none (by omega)]; simp
theorem Btw.init {p : Pg} {T : Int} {n : List Int} {b : Bool} (h : Hd p T n b) : Btw p T n 0 n false :=
  ⟨h.len, h.low, h.bnd, fun _ => ⟨rfl, fun i r hi => by omega⟩, fun h => by cases h⟩
theorem Btw.fin {p : Pg} {T : Int} {n0 n : List Int} {ch : Bool} (h : Btw p T n0 p.rels.length n ch) : Hd p T n ch := by
  refine ⟨h.len, h.low, h.bnd, fun hc => ⟨h.len, fun i hi => (h.bnd i hi).1, fun i r hr e he => ?_⟩⟩
  obtain ⟨h1, h2⟩ := h.same hc
  rw [h1]
  exact h2 i r (List.getElem?_eq_some_iff.1 hr).1 hr e he
theorem Btw.mu {p : Pg} {T : Int} {n0 n : List Int} {ch : Bool} (h : Btw p T n0 p.rels.length n ch) : muS p T (n, ch) < muS p T (n0, true) := by
  have hs := sum_le n (fun j hj => (h.bnd j hj).2)
  rw [h.len] at hs
  unfold muS
  cases ch with
  | false =>
    have := (h.same rfl).1
    subst this
    simp
  | true =>
    have := h.grew rfl
    dsimp only
    simp only [if_true]
    omega
theorem Btw.mid {p : Pg} {T : Int} {n0 n : List Int} {ch : Bool} {i : Nat} {x : Rl} (h : Btw p T n0 i n ch) (hi : i < p.rels.length) : p.Mid T n0 i x.edges.length x.edges x.edges n ch := by
  have hb := (h.bnd i (by rw [h.len]; exact hi)).2
  exact ⟨h.len, h.low, fun j hj => ⟨(h.bnd j hj).1, fun _ => (h.bnd j hj).2⟩, by omega, fun hc => ⟨(h.same hc).1, fun e he => .inl he⟩, h.grew⟩
theorem Btw.next {p : Pg} {T : Int} {n0 n n' : List Int} {ch ch' : Bool} {i C : Nat} {x : Rl} (h : Btw p T n0 i n ch) (hx : p.rels[i]? = some x) (hm : p.Mid T n0 i C x.edges [] n' ch') (hc : ch' = false → ch = false) (hb : n'.getD i 0 ≤ T) : Btw p T n0 (i + 1) n' ch' := by
  refine ⟨hm.len, hm.low, fun j hj => ⟨(hm.oth j hj).1, ?_⟩, fun hf => ?_, hm.grew⟩
  · by_cases hji : j = i
    · rw [hji]; exact hb
    · exact (hm.oth j hj).2 hji
  · obtain ⟨k1, k2⟩ := hm.same hf
    obtain ⟨k3, k4⟩ := h.same (hc hf)
    refine ⟨k1, fun i' r hi' hr e he => ?_⟩
    by_cases hii : i' = i
    · subst hii
      rw [hx] at hr; cases hr
      rcases k2 e he with hm' | hm'
      · simp at hm'
      · exact hm'
    · exact k4 i' r (by omega) hr e he
def arcs (y : List (List UInt8) × Int) : List (List UInt8 × Int) := y.1.map fun n => (n, y.2)
theorem edges_arcs (x : Rl) : x.edges = [(x.body.callsI false false, (0 : Int)), (x.body.callsI true false, (1 : Int))].flatMap arcs := by
  simp [Rl.edges, arcs]
theorem strata_T (p : Pg) {B : Bool} {V : List Int} (hst : p.StV B V) (hw : wtL p.enc ≤ 1048576) (hok : pgOk p = true) : ACalls Try.prog 43 [.d (.agg p.enc)] [.hole] (stR B V) := by
  have hmx : maxLen = 9223372036854775807 := rfl
  have hEok := Pg.edges_ok hok
  have hN8 : p.rels.length ≤ 8 := by
    unfold pgOk at hok
    simp only [Bool.and_eq_true, decide_eq_true_eq] at hok
    exact hok.1
  refine ACalls.enter (fn := Try.f43) Try.func43 rfl (by show 1 ≤ _; decide) ?_
  refine run_sound Try.func43 mixed 200 _ _ (by kernel_rfl) ?_
  simp only [go_sem, seval, hok]
  repeat' (first
    | ((first | (refine br_intro (fun hq => ?_) (fun hq => ?_) <;> (try simp only [decide_eq_true_eq, decide_eq_false_iff_not, bne_iff_ne, beq_iff_eq, beq_eq_false_iff_ne, bne_eq_false_iff_eq, Bool.not_eq_true, Bool.not_eq_false, ne_eq, Decidable.not_not, Int.not_lt, Int.not_le, Bool.not_eq_eq_eq_not, Bool.not_true, Bool.not_false, gt_iff_lt, ge_iff_le, Bool.and_eq_true, Bool.or_eq_true, Bool.or_eq_false_iff, Bool.and_eq_false_imp] at hq)) | (refine idx_intro (fun x hx => have hq := hx; ?_))) <;> (try simp only [go_sem, seval, hok, hq]))
    | (simp (disch := omega) only [wrap_ok])
    | ((first
      | (refine (iProgramOk_fn _ (by first | omega | assumption | (simp; done) | (simp; omega))).calls rfl ?_)
      | (refine (iProgramOk_fn _ (by first | omega | assumption | (simp; done) | (simp; omega))).callQ rfl ?_)
      | (refine (relation_fn _ _).calls rfl ?_)
      | (refine (relation_fn _ _).callQ rfl ?_)
      | (refine ⟨by first | omega | assumption | (simp; done) | (simp; omega), ?_⟩)) <;> (try simp only [go_sem, seval, hok]))
    | assumption)
  refine AW.lp [1, 4] (fun a : List Int × Bool => [(5, .d (.bool a.2))]) (fun _ a => [.hole, .box (p.enc.map .d), .row 1 3 (intsD a.1)]) (fun a => Hd p p.rels.length a.1 a.2) (muS p p.rels.length) (List.replicate p.rels.length 0, true) (hd0 p (by omega)) (by refine ⟨by simp [mkS], by simp [mkS, intsD], by simp only [mkS, List.all_cons, List.all_nil, O.refsLt, C.refsLt, C.refsLt1, all_dmap]; first | done | rfl | (simp; done), ?_⟩; simp [mkS, Abs.get, C.refsLtT, C.refsLt, C.refsLt1]) ?_
  rintro ⟨n0, ch⟩ hI hnext
  dsimp only at hI hnext ⊢
  cases ch with
  | false =>
    have hls : p.Least n0 := ⟨hI.sol rfl, hI.low⟩
    obtain ⟨s1, s2⟩ := hst.1 _ hls
    unfold stR
    rw [s1, s2]
    refine AW.rowT 4 2 rfl rfl (by simp [intsD, hI.len]) (by decide) (fun x hx d hd => by obtain ⟨m, _, rfl⟩ := List.mem_map.1 hx; simp at hd; subst hd; rfl) ?_
    refine AW.place 4 3 0 rfl rfl rfl (by decide) ?_
    refine run_sound Try.func43 mixed 200 _ _ (by kernel_rfl) ?_
    simp only [go_sem, seval]
    repeat' (first
      | (exact ⟨_, _, rfl⟩)
      | ((first | (refine br_intro (fun hq => ?_) (fun hq => ?_) <;> (try simp only [decide_eq_true_eq, decide_eq_false_iff_not, bne_iff_ne, beq_iff_eq, beq_eq_false_iff_ne, bne_eq_false_iff_eq, Bool.not_eq_true, Bool.not_eq_false, ne_eq, Decidable.not_not, Int.not_lt, Int.not_le, Bool.not_eq_eq_eq_not, Bool.not_true, Bool.not_false, gt_iff_lt, ge_iff_le, Bool.and_eq_true, Bool.or_eq_true, Bool.or_eq_false_iff, Bool.and_eq_false_imp] at hq)) | (refine idx_intro (fun x hx => have hq := hx; ?_))) <;> (try simp only [go_sem, seval, hq]))
      | (simp (disch := omega) only [wrap_ok])
      | ((first
        | (refine (iProgramOk_fn _ (by first | omega | assumption | (simp; done) | (simp; omega))).calls rfl ?_)
        | (refine (iProgramOk_fn _ (by first | omega | assumption | (simp; done) | (simp; omega))).callQ rfl ?_)
        | (refine (relation_fn _ _).calls rfl ?_)
        | (refine (relation_fn _ _).callQ rfl ?_)
        | (refine ⟨by first | omega | assumption | (simp; done) | (simp; omega), ?_⟩)) <;> (try simp only [go_sem, seval]))
      | assumption)
  | true =>
    refine run_sound Try.func43 mixed 200 _ _ (by kernel_rfl) ?_
    simp only [go_sem, seval]
    repeat' (first
      | ((first | (refine br_intro (fun hq => ?_) (fun hq => ?_) <;> (try simp only [decide_eq_true_eq, decide_eq_false_iff_not, bne_iff_ne, beq_iff_eq, beq_eq_false_iff_ne, bne_eq_false_iff_eq, Bool.not_eq_true, Bool.not_eq_false, ne_eq, Decidable.not_not, Int.not_lt, Int.not_le, Bool.not_eq_eq_eq_not, Bool.not_true, Bool.not_false, gt_iff_lt, ge_iff_le, Bool.and_eq_true, Bool.or_eq_true, Bool.or_eq_false_iff, Bool.and_eq_false_imp] at hq)) | (refine idx_intro (fun x hx => have hq := hx; ?_))) <;> (try simp only [go_sem, seval, hq]))
      | (simp (disch := omega) only [wrap_ok])
      | ((first
        | (refine (iProgramOk_fn _ (by first | omega | assumption | (simp; done) | (simp; omega))).calls rfl ?_)
        | (refine (iProgramOk_fn _ (by first | omega | assumption | (simp; done) | (simp; omega))).callQ rfl ?_)
        | (refine (relation_fn _ _).calls rfl ?_)
        | (refine (relation_fn _ _).callQ rfl ?_)
        | (refine ⟨by first | omega | assumption | (simp; done) | (simp; omega), ?_⟩)) <;> (try simp only [go_sem, seval]))
      | assumption)
    refine AW.rng p.rels [1, 4, 22, 23] 24 22 (fun a : List Int × Bool => [(5, .d (.bool a.2))]) (fun _ a => [.hole, .box (p.enc.map .d), .row 1 3 (intsD a.1)]) (fun r a => Btw p p.rels.length n0 (p.rels.length - r.length) a.1 a.2) (n0, false) rfl (by simp) (by rw [Nat.sub_self]; exact Btw.init hI) (by refine ⟨by simp [mkS], by simp [mkS], by simp only [mkS, List.all_cons, List.all_nil, O.refsLt, C.refsLt, C.refsLt1, all_dmap]; first | done | rfl | (simp; done), ?_⟩; simp [mkS, Abs.get, C.refsLtT, C.refsLt, C.refsLt1]) (fun i x r a hxi hdr hlt hm hinv hnx1 => ?_) (fun a hinv => ?_)
    · obtain ⟨n1, ch1⟩ := a
      have hdl := drop_len hdr
      have hdl2 : p.rels.length - r.length = i + 1 := by have := congrArg List.length hdr; simp at this; omega
      simp only [List.length_cons, hdl] at hinv
      rw [hdl2] at hnx1
      dsimp only at hinv hnx1 ⊢
      have hxm := List.mem_of_getElem? hxi
      have hxw : wtL x.body.enc ≤ 1048576 := by have := Pg.wt_rels hxm; have := Rl.wt_body x; omega
      have c0 := cOT_gives (callsOf_T x.body hxw) false false
      have c1 := cOT_gives (callsOf_T x.body hxw) true false
      have hmid := hinv.mid (x := x) (by omega)
      have hCl := (Pg.edges_len hok hxm).1
      have hed : ∀ e, e ∈ x.edges → _ := fun e he => hEok i x hxi e he
      refine run_sound Try.func43 mixed 200 _ _ (by kernel_rfl) ?_
      simp only [go_sem, seval, hlt, idx_of hxi]
      repeat' (first
        | ((first | (refine br_intro (fun hq => ?_) (fun hq => ?_) <;> (try simp only [decide_eq_true_eq, decide_eq_false_iff_not, bne_iff_ne, beq_iff_eq, beq_eq_false_iff_ne, bne_eq_false_iff_eq, Bool.not_eq_true, Bool.not_eq_false, ne_eq, Decidable.not_not, Int.not_lt, Int.not_le, Bool.not_eq_eq_eq_not, Bool.not_true, Bool.not_false, gt_iff_lt, ge_iff_le, Bool.and_eq_true, Bool.or_eq_true, Bool.or_eq_false_iff, Bool.and_eq_false_imp] at hq)) | (refine idx_intro (fun x hx => have hq := hx; ?_))) <;> (try simp only [go_sem, seval, hlt, idx_of hxi, hq]))
        | (simp (disch := omega) only [wrap_ok])
        | ((first
          | (refine c0.calls rfl ?_)
          | (refine c1.calls rfl ?_)
          | (refine c0.callQ rfl ?_)
          | (refine c1.callQ rfl ?_)
          | (refine (iProgramOk_fn _ (by first | omega | assumption | (simp; done) | (simp; omega))).calls rfl ?_)
          | (refine (iProgramOk_fn _ (by first | omega | assumption | (simp; done) | (simp; omega))).callQ rfl ?_)
          | (refine (relation_fn _ _).calls rfl ?_)
          | (refine (relation_fn _ _).callQ rfl ?_)
          | (refine ⟨by first | omega | assumption | (simp; done) | (simp; omega), ?_⟩)) <;> (try simp only [go_sem, seval, hlt, idx_of hxi]))
        | assumption)
      refine AW.rng [(x.body.callsI false false, (0 : Int)), (x.body.callsI true false, (1 : Int))] [1, 4, 6, 22, 23, 24, 35, 36] 37 35 (fun a : List Int × Bool => [(5, .d (.bool a.2))]) (fun _ a => [.hole, .box (p.enc.map .d), .row 1 3 (intsD a.1), .box (x.enc.map .d)]) (fun s a => p.Mid p.rels.length n0 i x.edges.length x.edges (s.flatMap arcs) a.1 a.2 ∧ (a.2 = false → ch1 = false) ∧ (s.flatMap arcs).length ≤ x.edges.length) (n1, ch1) rfl rfl ⟨by rw [← edges_arcs]; exact hmid, fun h => h, by rw [← edges_arcs]; exact Nat.le_refl _⟩ (by refine ⟨by simp [mkS], by simp [mkS], by simp only [mkS, List.all_cons, List.all_nil, O.refsLt, C.refsLt, C.refsLt1, all_dmap]; first | done | rfl | (simp; done), ?_⟩; simp [mkS, Abs.get, C.refsLtT, C.refsLt, C.refsLt1]) (fun j y s a hyj hds hjt hmj hinv2 hnx2 => ?_) (fun a hinv2 => ?_)
      · obtain ⟨l, w⟩ := y
        obtain ⟨n2, ch2⟩ := a
        have hyin : (l, w) ∈ [(x.body.callsI false false, (0 : Int)), (x.body.callsI true false, (1 : Int))] := List.mem_of_getElem? hyj
        have hwj : w = (j : Int) ∧ ([[D.sl (strD (x.body.callsI false false))], [D.sl (strD (x.body.callsI true false))]] : List (List D))[j]? = some [.sl (strD l)] := by
          match j, hyj with
          | 0, h => simp at h; obtain ⟨rfl, rfl⟩ := h; exact ⟨rfl, rfl⟩
          | 1, h => simp at h; obtain ⟨rfl, rfl⟩ := h; exact ⟨rfl, rfl⟩
          | j + 2, h => simp at h
        obtain ⟨rfl, hat⟩ := hwj
        have hmem : ∀ nm, nm ∈ l → (nm, (j : Int)) ∈ x.edges := fun nm hnm => by
          rw [edges_arcs]; exact List.mem_flatMap.2 ⟨_, hyin, List.mem_map.2 ⟨nm, hnm, rfl⟩⟩
        dsimp only at hinv2 hnx2 ⊢
        simp only [List.flatMap_cons] at hinv2
        generalize hS : s.flatMap arcs = S at hinv2 hnx2
        have hjt2 : (j : Int) < 2 := by simpa using hjt
        refine run_sound Try.func43 mixed 200 _ _ (by kernel_rfl) ?_
        simp only [go_sem, seval, hjt2, idx_of hat]
        repeat' (first
          | ((first | (refine br_intro (fun hq => ?_) (fun hq => ?_) <;> (try simp only [decide_eq_true_eq, decide_eq_false_iff_not, bne_iff_ne, beq_iff_eq, beq_eq_false_iff_ne, bne_eq_false_iff_eq, Bool.not_eq_true, Bool.not_eq_false, ne_eq, Decidable.not_not, Int.not_lt, Int.not_le, Bool.not_eq_eq_eq_not, Bool.not_true, Bool.not_false, gt_iff_lt, ge_iff_le, Bool.and_eq_true, Bool.or_eq_true, Bool.or_eq_false_iff, Bool.and_eq_false_imp] at hq)) | (refine idx_intro (fun x hx => have hq := hx; ?_))) <;> (try simp only [go_sem, seval, hjt2, idx_of hat, hq]))
          | (simp (disch := omega) only [wrap_ok])
          | ((first
            | (refine (iProgramOk_fn _ (by first | omega | assumption | (simp; done) | (simp; omega))).calls rfl ?_)
            | (refine (iProgramOk_fn _ (by first | omega | assumption | (simp; done) | (simp; omega))).callQ rfl ?_)
            | (refine (relation_fn _ _).calls rfl ?_)
            | (refine (relation_fn _ _).callQ rfl ?_)
            | (refine ⟨by first | omega | assumption | (simp; done) | (simp; omega), ?_⟩)) <;> (try simp only [go_sem, seval, hjt2, idx_of hat]))
          | assumption)
        refine AW.rng l [1, 4, 6, 8, 22, 23, 24, 35, 36, 37, 42, 43] 44 42 (fun a : List Int × Bool => [(5, .d (.bool a.2))]) (fun _ a => [.hole, .box (p.enc.map .d), .row 1 3 (intsD a.1), .box (x.enc.map .d)]) (fun u a => p.Mid p.rels.length n0 i x.edges.length x.edges (u.map (fun n => (n, (j : Int))) ++ S) a.1 a.2 ∧ (a.2 = false → ch1 = false) ∧ (u.map (fun n => (n, (j : Int))) ++ S).length ≤ x.edges.length) (n2, ch2) rfl (by simp [strD_len]) hinv2 (by refine ⟨by simp [mkS], by simp [mkS], by simp only [mkS, List.all_cons, List.all_nil, O.refsLt, C.refsLt, C.refsLt1, all_dmap]; first | done | rfl | (simp; done), ?_⟩; simp [mkS, Abs.get, C.refsLtT, C.refsLt, C.refsLt1]) (fun jj nm u a hnj hdu hut hmu hinv3 hnx3 => ?_) (fun a hinv3 => ?_)
        · obtain ⟨n3, ch3⟩ := a
          obtain ⟨m1, m2, m3⟩ := hinv3
          simp only [List.map_cons, List.cons_append, List.length_cons] at m1 m3
          dsimp only at m1 m2 m3 hnx3 ⊢
          have he := hmem nm (List.mem_of_getElem? hnj)
          obtain ⟨⟨f0, f1⟩, f2⟩ := hed _ he
          have hat2 := strD_at hnj
          have hut2 : (jj : Int) < ((strD l).length : Int) := by rw [strD_len]; exact hut
          have hrel := relation_fn p nm
          dsimp only at f0 f1 f2
          have hstep := m1.step (by omega) hxi he f1 f2 m3 m1.grew
          unfold Pg.relax at hstep
          dsimp only at hstep
          obtain ⟨f, hf⟩ : ∃ f : Nat, p.find nm = f := ⟨(p.find nm).toNat, by omega⟩
          rw [hf] at hrel hstep f1
          simp only [Int.toNat_natCast] at hstep f1
          have hfl : f < n3.length := by rw [m1.len]; exact f1
          have hil : i < n3.length := by rw [m1.len]; omega
          have hgf := intsD_g hfl
          have hgi := intsD_g hil
          have hbf := m1.oth f hfl
          have hbi := m1.oth i hil
          have hown := m1.own
          simp only [List.length_cons] at hown
          have hfb : n3.getD f 0 ≤ 200 := by
            by_cases hfi : f = i
            · rw [hfi]; omega
            · have := hbf.2 hfi; omega
          have hwr : IntKind.i64.wrap (n3.getD f 0 + (j : Int)) = n3.getD f 0 + (j : Int) := wrap_ok (by omega) (by omega)
          have hfz : (f : Int) < (n3.length : Int) := by omega
          have hiz : (i : Int) < (n3.length : Int) := by omega
          obtain ⟨vf, hvf⟩ : ∃ v, n3.getD f 0 = v := ⟨_, rfl⟩
          obtain ⟨vi, hvi⟩ : ∃ v, n3.getD i 0 = v := ⟨_, rfl⟩
          rw [hvf] at hgf hbf hfb hwr
          rw [hvi] at hgi hbi hown
          by_cases hb : n3.getD i 0 < n3.getD f 0 + (j : Int)
          · rw [if_pos hb, decide_eq_true hb, Bool.or_true] at hstep
            obtain ⟨X, hX⟩ : ∃ v, vf + (j : Int) = v := ⟨_, rfl⟩
            rw [hvi, hvf, hX] at hb
            try rw [hvf, hX] at hstep
            rw [hX] at hwr
            refine run_sound Try.func43 mixed 200 _ _ (by kernel_rfl) ?_
            simp only [go_sem, seval, hut2, idx_of hat2, hgf, hgi, hX, hwr, hb, hfz, hiz, hfl, hil, f1]
            repeat' (first
              | ((first | (refine br_intro (fun hq => ?_) (fun hq => ?_) <;> (try simp only [decide_eq_true_eq, decide_eq_false_iff_not, bne_iff_ne, beq_iff_eq, beq_eq_false_iff_ne, bne_eq_false_iff_eq, Bool.not_eq_true, Bool.not_eq_false, ne_eq, Decidable.not_not, Int.not_lt, Int.not_le, Bool.not_eq_eq_eq_not, Bool.not_true, Bool.not_false, gt_iff_lt, ge_iff_le, Bool.and_eq_true, Bool.or_eq_true, Bool.or_eq_false_iff, Bool.and_eq_false_imp] at hq)) | (refine idx_intro (fun x hx => have hq := hx; ?_))) <;> (try simp only [go_sem, seval, hut2, idx_of hat2, hgf, hgi, hX, hwr, hb, hfz, hiz, hfl, hil, f1, hq]))
              | (simp (disch := omega) only [wrap_ok])
              | ((first
                | (refine hrel.calls rfl ?_)
                | (refine (iProgramOk_fn _ (by first | omega | assumption | (simp; done) | (simp; omega))).calls rfl ?_)
                | (refine (iProgramOk_fn _ (by first | omega | assumption | (simp; done) | (simp; omega))).callQ rfl ?_)
                | (refine (relation_fn _ _).calls rfl ?_)
                | (refine (relation_fn _ _).callQ rfl ?_)
                | (refine ⟨by first | omega | assumption | (simp; done) | (simp; omega), ?_⟩)) <;> (try simp only [go_sem, seval, hut2, idx_of hat2, hgf, hgi, hX, hwr, hb, hfz, hiz, hfl, hil, f1]))
              | assumption)
            refine hnx3 (n3.set i X, true) _ ⟨hstep, (fun h => by cases h), (by omega)⟩ (by refine ⟨by simp [mkS], by simp [mkS], by simp only [mkS, List.all_cons, List.all_nil, O.refsLt, C.refsLt, C.refsLt1, all_dmap]; first | done | rfl | (simp; done), ?_⟩; simp [mkS, Abs.get, C.refsLtT, C.refsLt, C.refsLt1])
          · rw [if_neg hb, decide_eq_false hb, Bool.or_false] at hstep
            obtain ⟨X, hX⟩ : ∃ v, vf + (j : Int) = v := ⟨_, rfl⟩
            rw [hvi, hvf, hX] at hb
            try rw [hvf, hX] at hstep
            rw [hX] at hwr
            refine run_sound Try.func43 mixed 200 _ _ (by kernel_rfl) ?_
            simp only [go_sem, seval, hut2, idx_of hat2, hgf, hgi, hX, hwr, hb, hfz, hiz, hfl, hil, f1]
            repeat' (first
              | ((first | (refine br_intro (fun hq => ?_) (fun hq => ?_) <;> (try simp only [decide_eq_true_eq, decide_eq_false_iff_not, bne_iff_ne, beq_iff_eq, beq_eq_false_iff_ne, bne_eq_false_iff_eq, Bool.not_eq_true, Bool.not_eq_false, ne_eq, Decidable.not_not, Int.not_lt, Int.not_le, Bool.not_eq_eq_eq_not, Bool.not_true, Bool.not_false, gt_iff_lt, ge_iff_le, Bool.and_eq_true, Bool.or_eq_true, Bool.or_eq_false_iff, Bool.and_eq_false_imp] at hq)) | (refine idx_intro (fun x hx => have hq := hx; ?_))) <;> (try simp only [go_sem, seval, hut2, idx_of hat2, hgf, hgi, hX, hwr, hb, hfz, hiz, hfl, hil, f1, hq]))
              | (simp (disch := omega) only [wrap_ok])
              | ((first
                | (refine hrel.calls rfl ?_)
                | (refine (iProgramOk_fn _ (by first | omega | assumption | (simp; done) | (simp; omega))).calls rfl ?_)
                | (refine (iProgramOk_fn _ (by first | omega | assumption | (simp; done) | (simp; omega))).callQ rfl ?_)
                | (refine (relation_fn _ _).calls rfl ?_)
                | (refine (relation_fn _ _).callQ rfl ?_)
                | (refine ⟨by first | omega | assumption | (simp; done) | (simp; omega), ?_⟩)) <;> (try simp only [go_sem, seval, hut2, idx_of hat2, hgf, hgi, hX, hwr, hb, hfz, hiz, hfl, hil, f1]))
              | assumption)
            refine hnx3 (n3, ch3) _ ⟨hstep, m2, (by omega)⟩ (by refine ⟨by simp [mkS], by simp [mkS], by simp only [mkS, List.all_cons, List.all_nil, O.refsLt, C.refsLt, C.refsLt1, all_dmap]; first | done | rfl | (simp; done), ?_⟩; simp [mkS, Abs.get, C.refsLtT, C.refsLt, C.refsLt1])
        · simp only [List.map_nil, List.nil_append] at hinv3
          refine run_sound Try.func43 mixed 200 _ _ (by kernel_rfl) ?_
          simp only [go_sem, seval, strD_len, Int.lt_irrefl]
          repeat' (first
            | ((first | (refine br_intro (fun hq => ?_) (fun hq => ?_) <;> (try simp only [decide_eq_true_eq, decide_eq_false_iff_not, bne_iff_ne, beq_iff_eq, beq_eq_false_iff_ne, bne_eq_false_iff_eq, Bool.not_eq_true, Bool.not_eq_false, ne_eq, Decidable.not_not, Int.not_lt, Int.not_le, Bool.not_eq_eq_eq_not, Bool.not_true, Bool.not_false, gt_iff_lt, ge_iff_le, Bool.and_eq_true, Bool.or_eq_true, Bool.or_eq_false_iff, Bool.and_eq_false_imp] at hq)) | (refine idx_intro (fun x hx => have hq := hx; ?_))) <;> (try simp only [go_sem, seval, strD_len, Int.lt_irrefl, hq]))
            | (simp (disch := omega) only [wrap_ok])
            | ((first
              | (refine (iProgramOk_fn _ (by first | omega | assumption | (simp; done) | (simp; omega))).calls rfl ?_)
              | (refine (iProgramOk_fn _ (by first | omega | assumption | (simp; done) | (simp; omega))).callQ rfl ?_)
              | (refine (relation_fn _ _).calls rfl ?_)
              | (refine (relation_fn _ _).callQ rfl ?_)
              | (refine ⟨by first | omega | assumption | (simp; done) | (simp; omega), ?_⟩)) <;> (try simp only [go_sem, seval, strD_len, Int.lt_irrefl]))
            | assumption)
          refine hnx2 a _ hinv3 (by refine ⟨by simp [mkS], by simp [mkS], by simp only [mkS, List.all_cons, List.all_nil, O.refsLt, C.refsLt, C.refsLt1, all_dmap]; first | done | rfl | (simp; done), ?_⟩; simp [mkS, Abs.get, C.refsLtT, C.refsLt, C.refsLt1])
      · obtain ⟨m1, m2, m3⟩ := hinv2
        obtain ⟨nf, chf⟩ := a
        simp only [List.flatMap_nil] at m1
        dsimp only at m1 m2
        have hil : i < nf.length := by rw [m1.len]; omega
        have hgi := intsD_g hil
        obtain ⟨vi, hvi⟩ : ∃ v, nf.getD i 0 = v := ⟨_, rfl⟩
        rw [hvi] at hgi
        by_cases hb : (p.rels.length : Int) < vi
        · obtain ⟨s1, s2⟩ := hst.2.1 (Pg.no_sol (fun i r hr e he => ⟨(hEok i r hr e he).1.2, (hEok i r hr e he).2⟩) m1.low (i := i) (by omega) (by omega))
          refine run_sound Try.func43 mixed 10 _ _ (by kernel_rfl) ?_
          simp only [go_sem, seval, run.eq_1, hgi, hil, hb]
          repeat' (first
            | ((first | (refine br_intro (fun hq => ?_) (fun hq => ?_) <;> (try simp only [decide_eq_true_eq, decide_eq_false_iff_not, bne_iff_ne, beq_iff_eq, beq_eq_false_iff_ne, bne_eq_false_iff_eq, Bool.not_eq_true, Bool.not_eq_false, ne_eq, Decidable.not_not, Int.not_lt, Int.not_le, Bool.not_eq_eq_eq_not, Bool.not_true, Bool.not_false, gt_iff_lt, ge_iff_le, Bool.and_eq_true, Bool.or_eq_true, Bool.or_eq_false_iff, Bool.and_eq_false_imp] at hq)) | (refine idx_intro (fun x hx => have hq := hx; ?_))) <;> (try simp only [go_sem, seval, hgi, hil, hb, run.eq_1, hq]))
            | (simp (disch := omega) only [wrap_ok])
            | ((first
              | (refine (iProgramOk_fn _ (by first | omega | assumption | (simp; done) | (simp; omega))).calls rfl ?_)
              | (refine (iProgramOk_fn _ (by first | omega | assumption | (simp; done) | (simp; omega))).callQ rfl ?_)
              | (refine (relation_fn _ _).calls rfl ?_)
              | (refine (relation_fn _ _).callQ rfl ?_)
              | (refine ⟨by first | omega | assumption | (simp; done) | (simp; omega), ?_⟩)) <;> (try simp only [go_sem, seval, hgi, hil, hb, run.eq_1]))
            | assumption)
          unfold stR
          rw [s1, s2]
          refine AW.adoptT 2 1 3 (by decide) rfl ?_
          refine AW.place 2 4 0 rfl rfl rfl (by decide) ?_
          refine run_sound Try.func43 mixed 200 _ _ (by kernel_rfl) ?_
          simp only [go_sem, seval]
          repeat' (first
            | (exact ⟨_, _, rfl⟩)
            | ((first | (refine br_intro (fun hq => ?_) (fun hq => ?_) <;> (try simp only [decide_eq_true_eq, decide_eq_false_iff_not, bne_iff_ne, beq_iff_eq, beq_eq_false_iff_ne, bne_eq_false_iff_eq, Bool.not_eq_true, Bool.not_eq_false, ne_eq, Decidable.not_not, Int.not_lt, Int.not_le, Bool.not_eq_eq_eq_not, Bool.not_true, Bool.not_false, gt_iff_lt, ge_iff_le, Bool.and_eq_true, Bool.or_eq_true, Bool.or_eq_false_iff, Bool.and_eq_false_imp] at hq)) | (refine idx_intro (fun x hx => have hq := hx; ?_))) <;> (try simp only [go_sem, seval, hq]))
            | (simp (disch := omega) only [wrap_ok])
            | ((first
              | (refine (iProgramOk_fn _ (by first | omega | assumption | (simp; done) | (simp; omega))).calls rfl ?_)
              | (refine (iProgramOk_fn _ (by first | omega | assumption | (simp; done) | (simp; omega))).callQ rfl ?_)
              | (refine (relation_fn _ _).calls rfl ?_)
              | (refine (relation_fn _ _).callQ rfl ?_)
              | (refine ⟨by first | omega | assumption | (simp; done) | (simp; omega), ?_⟩)) <;> (try simp only [go_sem, seval]))
            | assumption)
        · refine run_sound Try.func43 mixed 200 _ _ (by kernel_rfl) ?_
          simp only [go_sem, seval, hgi, hil, hb]
          repeat' (first
            | ((first | (refine br_intro (fun hq => ?_) (fun hq => ?_) <;> (try simp only [decide_eq_true_eq, decide_eq_false_iff_not, bne_iff_ne, beq_iff_eq, beq_eq_false_iff_ne, bne_eq_false_iff_eq, Bool.not_eq_true, Bool.not_eq_false, ne_eq, Decidable.not_not, Int.not_lt, Int.not_le, Bool.not_eq_eq_eq_not, Bool.not_true, Bool.not_false, gt_iff_lt, ge_iff_le, Bool.and_eq_true, Bool.or_eq_true, Bool.or_eq_false_iff, Bool.and_eq_false_imp] at hq)) | (refine idx_intro (fun x hx => have hq := hx; ?_))) <;> (try simp only [go_sem, seval, hgi, hil, hb, hq]))
            | (simp (disch := omega) only [wrap_ok])
            | ((first
              | (refine (iProgramOk_fn _ (by first | omega | assumption | (simp; done) | (simp; omega))).calls rfl ?_)
              | (refine (iProgramOk_fn _ (by first | omega | assumption | (simp; done) | (simp; omega))).callQ rfl ?_)
              | (refine (relation_fn _ _).calls rfl ?_)
              | (refine (relation_fn _ _).callQ rfl ?_)
              | (refine ⟨by first | omega | assumption | (simp; done) | (simp; omega), ?_⟩)) <;> (try simp only [go_sem, seval, hgi, hil, hb]))
            | assumption)
          refine hnx1 (nf, chf) _ (hinv.next hxi m1 m2 (by rw [hvi]; omega)) (by refine ⟨by simp [mkS], by simp [mkS], by simp only [mkS, List.all_cons, List.all_nil, O.refsLt, C.refsLt, C.refsLt1, all_dmap]; first | done | rfl | (simp; done), ?_⟩; simp [mkS, Abs.get, C.refsLtT, C.refsLt, C.refsLt1])
    · simp only [List.length_nil, Nat.sub_zero] at hinv
      refine run_sound Try.func43 mixed 200 _ _ (by kernel_rfl) ?_
      simp only [go_sem, seval]
      repeat' (first
        | ((first | (refine br_intro (fun hq => ?_) (fun hq => ?_) <;> (try simp only [decide_eq_true_eq, decide_eq_false_iff_not, bne_iff_ne, beq_iff_eq, beq_eq_false_iff_ne, bne_eq_false_iff_eq, Bool.not_eq_true, Bool.not_eq_false, ne_eq, Decidable.not_not, Int.not_lt, Int.not_le, Bool.not_eq_eq_eq_not, Bool.not_true, Bool.not_false, gt_iff_lt, ge_iff_le, Bool.and_eq_true, Bool.or_eq_true, Bool.or_eq_false_iff, Bool.and_eq_false_imp] at hq)) | (refine idx_intro (fun x hx => have hq := hx; ?_))) <;> (try simp only [go_sem, seval, hq]))
        | (simp (disch := omega) only [wrap_ok])
        | ((first
          | (refine (iProgramOk_fn _ (by first | omega | assumption | (simp; done) | (simp; omega))).calls rfl ?_)
          | (refine (iProgramOk_fn _ (by first | omega | assumption | (simp; done) | (simp; omega))).callQ rfl ?_)
          | (refine (relation_fn _ _).calls rfl ?_)
          | (refine (relation_fn _ _).callQ rfl ?_)
          | (refine ⟨by first | omega | assumption | (simp; done) | (simp; omega), ?_⟩)) <;> (try simp only [go_sem, seval]))
        | assumption)
      refine hnext a _ hinv.fin hinv.mu (by refine ⟨by simp [mkS], by simp [mkS], by simp only [mkS, List.all_cons, List.all_nil, O.refsLt, C.refsLt, C.refsLt1, all_dmap]; first | done | rfl | (simp; done), ?_⟩; simp [mkS, Abs.get, C.refsLtT, C.refsLt, C.refsLt1])
/-- The strata, for every program. -/
theorem iStrata_T (p : Pg) {B : Bool} {V : List Int} (hst : p.StV B V) (hw : wtL p.enc ≤ 1048576) : ACalls Try.prog 43 [.d (.agg p.enc)] [.hole] (stR (pgOk p && B) (if pgOk p = true then V else [])) := by
  by_cases hok : pgOk p = true
  · have h := strata_T p hst hw hok
    rw [if_pos hok, hok, Bool.true_and]
    exact h
  · simp only [if_neg hok]
    simp only [Bool.not_eq_true] at hok
    rw [hok, Bool.false_and]
    refine ACalls.enter (fn := Try.f43) Try.func43 rfl (by show 1 ≤ _; decide) ?_
    refine run_sound Try.func43 mixed 8 _ _ (by kernel_rfl) ?_
    simp only [go_sem, seval, run.eq_1, hok]
    repeat' (first
      | ((first | (refine br_intro (fun hq => ?_) (fun hq => ?_) <;> (try simp only [decide_eq_true_eq, decide_eq_false_iff_not, bne_iff_ne, beq_iff_eq, beq_eq_false_iff_ne, bne_eq_false_iff_eq, Bool.not_eq_true, Bool.not_eq_false, ne_eq, Decidable.not_not, Int.not_lt, Int.not_le, Bool.not_eq_eq_eq_not, Bool.not_true, Bool.not_false, gt_iff_lt, ge_iff_le, Bool.and_eq_true, Bool.or_eq_true, Bool.or_eq_false_iff, Bool.and_eq_false_imp] at hq)) | (refine idx_intro (fun x hx => have hq := hx; ?_))) <;> (try simp only [go_sem, seval, hok, run.eq_1, hq]))
      | (simp (disch := omega) only [wrap_ok])
      | ((first
        | (refine (iProgramOk_fn _ (by first | omega | assumption | (simp; done) | (simp; omega))).calls rfl ?_)
        | (refine (iProgramOk_fn _ (by first | omega | assumption | (simp; done) | (simp; omega))).callQ rfl ?_)
        | (refine (relation_fn _ _).calls rfl ?_)
        | (refine (relation_fn _ _).callQ rfl ?_)
        | (refine ⟨by first | omega | assumption | (simp; done) | (simp; omega), ?_⟩)) <;> (try simp only [go_sem, seval, hok, run.eq_1]))
      | assumption)
    unfold stR
    refine AW.adoptT 2 1 3 (by decide) rfl ?_
    refine AW.place 2 2 0 rfl rfl rfl (by decide) ?_
    refine run_sound Try.func43 mixed 200 _ _ (by kernel_rfl) ?_
    simp only [go_sem, seval]
    repeat' (first
      | (exact ⟨_, _, rfl⟩)
      | ((first | (refine br_intro (fun hq => ?_) (fun hq => ?_) <;> (try simp only [decide_eq_true_eq, decide_eq_false_iff_not, bne_iff_ne, beq_iff_eq, beq_eq_false_iff_ne, bne_eq_false_iff_eq, Bool.not_eq_true, Bool.not_eq_false, ne_eq, Decidable.not_not, Int.not_lt, Int.not_le, Bool.not_eq_eq_eq_not, Bool.not_true, Bool.not_false, gt_iff_lt, ge_iff_le, Bool.and_eq_true, Bool.or_eq_true, Bool.or_eq_false_iff, Bool.and_eq_false_imp] at hq)) | (refine idx_intro (fun x hx => have hq := hx; ?_))) <;> (try simp only [go_sem, seval, hq]))
      | (simp (disch := omega) only [wrap_ok])
      | ((first
        | (refine (iProgramOk_fn _ (by first | omega | assumption | (simp; done) | (simp; omega))).calls rfl ?_)
        | (refine (iProgramOk_fn _ (by first | omega | assumption | (simp; done) | (simp; omega))).callQ rfl ?_)
        | (refine (relation_fn _ _).calls rfl ?_)
        | (refine (relation_fn _ _).callQ rfl ?_)
        | (refine ⟨by first | omega | assumption | (simp; done) | (simp; omega), ?_⟩)) <;> (try simp only [go_sem, seval]))
      | assumption)
end Go.Proofs.Ytljdpohdfnileaa

