import Derived.Test.YtockpdkdnlkkfaaGreatW113
import Derived.Test.YtockpdkdnlkkfaaGreatFam
set_option linter.unusedSimpArgs false
set_option linter.unusedVariables false
namespace Go.Abs
section
variable {P:Program} {f:FuncId} {n n0:Nat} {R:C→List O→Prop}
end
end Go.Abs
set_option linter.unusedSimpArgs false
namespace Go.Abs
set_option linter.unusedVariables false
set_option linter.unusedVariables false
set_option linter.unusedSimpArgs false
theorem ACalls.nilArg {P:Program} {f:FuncId} {pre post:List C} {H:List O} {K:C→List O→Prop} (h:ACalls P f (pre++.d (.sl []) :: post) H K):ACalls P f (pre++.nil0 :: post) H K:=by
 intro E vs hH hs ha
 refine h E vs hH (by simpa using hs) (fun i c v hc hv=>?_)
 by_cases hi:i=pre.length
 ·subst hi
  have h1:(pre++C.nil0 :: post)[pre.length]? = some .nil0:=by simp
  have h2:=ha _ _ v h1 hv
  simp at hc;subst hc
  cases h2 with
  | nil0 a=>exact .d _ _ (.nil a 0)
 ·refine ha i c v ?_ hv
  by_cases hl:i<pre.length
  ·rw [List.getElem?_append_left hl] at hc ⊢;exact hc
  ·rw [List.getElem?_append_right (by omega)] at hc ⊢
   obtain ⟨m,hm⟩:∃m,i - pre.length=m+1:=⟨i - pre.length - 1,by omega⟩
   rw [hm] at hc ⊢
   simpa using hc
theorem vcOpL_sound {P:Program} {s:St} {o:Oper} {K:C→List O→Prop} (h:vcOpL P s o K):EffOk P s o K:=by
 unfold vcOpL at h
 split at h
 ·rename_i t n ps ho
  obtain ⟨h0,h⟩:=h
  split at h
  ·rename_i e z by_ ht
   obtain ⟨h1,h2,h3,h4,h5⟩:=h
   split at h5
   ·rename_i ds H1 hm
    exact effOk_buildT ho (idxOk_eq _ _ h0) ht (by simpa using h1) h2 h3 h4 hm h5
   ·exact h5.elim
  ·exact h.elim
 ·exact vcOpT_sound h
end Go.Abs
set_option linter.unusedSimpArgs false
namespace Go.Abs
set_option linter.unusedVariables false
section
variable {P:Program} {f:FuncId} {n n0:Nat} {R:C→List O→Prop}
end
set_option linter.unusedVariables false
set_option linter.unusedSimpArgs false
end Go.Abs
set_option linter.unusedSimpArgs false
namespace Go.Abs
set_option maxHeartbeats 2000000
set_option linter.unusedVariables false
end Go.Abs
set_option linter.unusedSimpArgs false
set_option linter.unusedVariables false
namespace Go.Abs
namespace CloR
variable {α:Type} {P:Program} {g:FuncId} {cs:List C} {m:Nat} {enc:α→D} {H:List O} {Q:α→Prop} {res:α→C}
end CloR
end Go.Abs
set_option linter.unusedSimpArgs false
set_option linter.unusedVariables false
namespace Go.Abs
section
variable {P:Program} {f:FuncId} {n n0:Nat} {R:C→List O→Prop}
end
end Go.Abs

set_option linter.unusedSimpArgs false
set_option linter.unusedVariables false
namespace Go.Abs
open Go.RowKit
end Go.Abs
set_option linter.unusedSimpArgs false
set_option linter.unusedVariables false
namespace Go.Abs
end Go.Abs
set_option linter.unusedSimpArgs false
set_option linter.unusedVariables false
namespace Go.Abs
section
variable {P:Program} {f:FuncId} {n n0:Nat} {R:C→List O→Prop}
end
end Go.Abs
set_option linter.unusedSimpArgs false
set_option linter.unusedVariables false
namespace Go.Abs
theorem tr_flat {w:World} {S:Nat→Nat→Prop} {d:D} {v:Value} {B:Nat→Prop} (hf:d.flat=true) (h:Tr w d v B):RdD w S d v:=by
 cases h with
 | int k n=>exact .int k n
 | bool b=>exact .bool b
 | str s=>exact .str s
 | nil a cap=>exact .nil a cap
 | sl b cap z e xs arr val Bs hne=>cases xs with | nil=>exact absurd rfl hne | cons=>simp [D.flat] at hf
 | any=>simp [D.flat] at hf
section
variable {P:Program} {f:FuncId} {n n0:Nat} {R:C→List O→Prop}
theorem AW.treeB {k:List Item} {s:St} (r:Nat) {q z e:Nat} {xs:List (List D)} {B:Nat→Prop} (hr:s.H[r]? = some (.tree q z e xs B none)) (hf:∀x,x∈xs→∀d,d∈x→d.flat=true)
  (h:AW P f n n0 R k ⟨s.σ,s.H.set r (.buf q z e xs)⟩):AW P f n n0 R k s:=by
 refine AW.recast (s':=⟨s.σ,s.H.set r (.buf q z e xs)⟩) (fun h0 E a hst=>?_)
 refine ⟨E,rfl,Le.refl E,⟨hst.size,hst.defers,?_,hst.slot⟩,h⟩
 obtain ⟨h1,h2,h3,h3',h4⟩:=hst.heap.obj r _ hr
 refine hst.heap.turn (r0:=r) (o0:=.buf q z e xs) (Le.refl _) (by rw [List.length_set];exact hst.heap.N) (fun r' hr'=>by rw [List.getElem?_set_ne (Ne.symm hr')]) (fun o' ho'=>?_) (fun _ _ _=>rfl) (fun r' o' b' hr' ho' hb=>⟨rfl,fun i hs=>hs⟩) (fun _ hb=>hb) (fun b i hs=>hst.heap.Slt b i hs) ?_ (fun b' hb=>?_)
 ·rw [List.getElem?_set_self (List.getElem?_eq_some_iff.1 hr).1] at ho'
  exact (Option.some.inj ho').symm
 ·refine ⟨h1,h2,h3,?_⟩
  rcases h4 with h4 | ⟨b,cap,arr,k1,k2,k3,k4,k5,k6,⟨val,Bs,k7,_,_⟩,_,k8,_⟩
  ·exact .inl h4
  ·refine .inr ⟨b,cap,arr,k1,k2,k3,k4,k5,k6,fun i j x c hi hj=>?_,k8⟩
   obtain ⟨m1,m2,m3⟩:=k7 i j x c hi hj
   exact ⟨_,m1,m2,tr_flat (hf x (List.mem_of_getElem? hi) c (List.mem_of_getElem? hj)) (m3 (by simp [lent]))⟩
 ·have hb':(O.tree q z e xs B none).block E r b':=.inl hb
  exact ⟨hst.heap.pv r _ b' hr hb',hst.heap.lt r _ b' hr hb',fun r' o' hr' ho' hb2=>hr' (hst.heap.apart r' r o' _ b' ho' hr hb2 hb')⟩
end
end Go.Abs
set_option linter.unusedSimpArgs false
set_option linter.unusedVariables false
namespace Go.Abs
section
variable {P:Program} {n:Nat} {md:Region.Mode} {ops:Array Oper}
end
end Go.Abs
set_option linter.unusedSimpArgs false
set_option linter.unusedVariables false
namespace Go.Abs
section
variable {P:Program} {f:FuncId} {n n0:Nat} {R:C→List O→Prop}
end
end Go.Abs
set_option linter.unusedSimpArgs false
namespace Go.Abs
set_option maxHeartbeats 2000000
set_option linter.unusedVariables false
section
variable {P:Program}
end
end Go.Abs
set_option linter.unusedSimpArgs false
namespace Go.Abs
set_option maxHeartbeats 2000000
set_option linter.unusedVariables false
section
variable {P:Program}
end
set_option maxHeartbeats 2000000
set_option linter.unusedVariables false
set_option linter.unusedSimpArgs false
section
variable {E E':Env} {f:Nat→Nat} {m:Nat}
end
end Go.Abs
set_option linter.unusedSimpArgs false
set_option linter.unusedVariables false
namespace Go.Abs
open Go.RowKit
end Go.Abs
set_option linter.unusedSimpArgs false
namespace Go.Abs
set_option maxHeartbeats 2000000
set_option linter.unusedVariables false
section
variable {P:Program} {n:Nat} {md:Region.Mode} {ops:Array Oper} {LA:Array Bool} {F:List (Nat×O)}
end
end Go.Abs
set_option linter.unusedSimpArgs false
namespace Go.Abs
set_option maxHeartbeats 2000000
set_option linter.unusedVariables false
section
variable {P:Program} {f:FuncId} {n n0:Nat} {R:C→List O→Prop}
end
end Go.Abs
set_option linter.unusedSimpArgs false
namespace Go.Abs
set_option maxHeartbeats 2000000
set_option linter.unusedVariables false
section
variable {P:Program} {f:FuncId} {n n0:Nat} {R:C→List O→Prop}
end
end Go.Abs

set_option linter.unusedVariables false
set_option linter.unusedSimpArgs false
namespace Go.Proofs.YtockpdkdnlkkfaaGreat
open Go.Abs
set_option maxRecDepth 100000
set_option maxHeartbeats 8000000
@[go_sem] theorem go20:isGo Tryz.prog 20=true:=by kernel_rfl
end Go.Proofs.YtockpdkdnlkkfaaGreat
namespace Go.Proofs.YtockpdkdnlkkfaaGreat
open Go.Abs
set_option maxRecDepth 100000
set_option maxHeartbeats 8000000
@[go_sem] theorem go22:isGo Tryz.prog 22=true:=by kernel_rfl
end Go.Proofs.YtockpdkdnlkkfaaGreat
namespace Go.Proofs.YtockpdkdnlkkfaaGreat
open Go.Abs
set_option maxRecDepth 100000
set_option maxHeartbeats 8000000
@[go_sem] theorem fr4:Tryz.f4.results.toList=[.tmp 6]:=by kernel_rfl
end Go.Proofs.YtockpdkdnlkkfaaGreat
namespace Go.Proofs.YtockpdkdnlkkfaaGreat
open Go.Abs
set_option maxRecDepth 100000
set_option maxHeartbeats 8000000
@[go_sem] theorem fn4:Tryz.f4.ntmps=63:=by kernel_rfl
end Go.Proofs.YtockpdkdnlkkfaaGreat
namespace Go.Proofs.YtockpdkdnlkkfaaGreat
open Go.Abs
set_option maxRecDepth 100000
set_option maxHeartbeats 8000000
@[go_sem] theorem ty75_i:tIsSlice Tryz.prog 75=true:=by kernel_rfl
end Go.Proofs.YtockpdkdnlkkfaaGreat
namespace Go.Proofs.YtockpdkdnlkkfaaGreat
open Go.Abs
set_option maxRecDepth 100000
set_option maxHeartbeats 8000000
@[go_sem] theorem ty75_e:tElem Tryz.prog 75=some 37:=by kernel_rfl
end Go.Proofs.YtockpdkdnlkkfaaGreat
namespace Go.Proofs.YtockpdkdnlkkfaaGreat
open Go.Abs
set_option maxRecDepth 100000
set_option maxHeartbeats 8000000
@[go_sem] theorem ty75_l:tSlice Tryz.prog 75=some (37,1,24):=by kernel_rfl
end Go.Proofs.YtockpdkdnlkkfaaGreat
namespace Go.Proofs.YtockpdkdnlkkfaaGreat
open Go.Abs
set_option maxRecDepth 100000
set_option maxHeartbeats 8000000
@[go_sem] theorem ty75_u:(Tryz.prog.underlying 75).isSome=true:=by kernel_rfl
end Go.Proofs.YtockpdkdnlkkfaaGreat
namespace Go.Proofs.YtockpdkdnlkkfaaGreat
open Go.Abs
set_option maxRecDepth 100000
set_option maxHeartbeats 8000000
@[go_sem] theorem go43:isGo Tryz.prog 43=true:=by kernel_rfl
end Go.Proofs.YtockpdkdnlkkfaaGreat
namespace Go.Proofs.YtockpdkdnlkkfaaGreat
open Go.Abs
set_option maxRecDepth 100000
set_option maxHeartbeats 8000000
@[go_sem] theorem go45:isGo Tryz.prog 45=true:=by kernel_rfl
end Go.Proofs.YtockpdkdnlkkfaaGreat
namespace Go.Proofs.YtockpdkdnlkkfaaGreat
open Go.Abs
set_option maxRecDepth 100000
set_option maxHeartbeats 8000000
@[go_sem] theorem fr20:Tryz.f20.results.toList=[.tmp 6]:=by kernel_rfl
end Go.Proofs.YtockpdkdnlkkfaaGreat
namespace Go.Proofs.YtockpdkdnlkkfaaGreat
open Go.Abs
set_option maxRecDepth 100000
set_option maxHeartbeats 8000000
@[go_sem] theorem fn20:Tryz.f20.ntmps=28:=by kernel_rfl
end Go.Proofs.YtockpdkdnlkkfaaGreat
namespace Go.Proofs.YtockpdkdnlkkfaaGreat
open Go.Abs
set_option maxRecDepth 100000
set_option maxHeartbeats 8000000
@[go_sem] theorem go46:isGo Tryz.prog 46=true:=by kernel_rfl
end Go.Proofs.YtockpdkdnlkkfaaGreat
namespace Go.Proofs.YtockpdkdnlkkfaaGreat
open Go.Abs
set_option maxRecDepth 100000
set_option maxHeartbeats 8000000
@[go_sem] theorem go48:isGo Tryz.prog 48=true:=by kernel_rfl
end Go.Proofs.YtockpdkdnlkkfaaGreat
namespace Go.Proofs.YtockpdkdnlkkfaaGreat
open Go.Abs
set_option maxRecDepth 100000
set_option maxHeartbeats 8000000
@[go_sem] theorem go49:isGo Tryz.prog 49=true:=by kernel_rfl
end Go.Proofs.YtockpdkdnlkkfaaGreat
namespace Go.Proofs.YtockpdkdnlkkfaaGreat
open Go.Abs
set_option maxRecDepth 100000
set_option maxHeartbeats 8000000
@[go_sem] theorem fr22:Tryz.f22.results.toList=[.tmp 6]:=by kernel_rfl
end Go.Proofs.YtockpdkdnlkkfaaGreat
namespace Go.Proofs.YtockpdkdnlkkfaaGreat
open Go.Abs
set_option maxRecDepth 100000
set_option maxHeartbeats 8000000
@[go_sem] theorem fn22:Tryz.f22.ntmps=27:=by kernel_rfl
end Go.Proofs.YtockpdkdnlkkfaaGreat
namespace Go.Proofs.YtockpdkdnlkkfaaGreat
open Go.Abs
set_option maxRecDepth 100000
set_option maxHeartbeats 8000000
@[go_sem] theorem ty107_a:tAgg Tryz.prog 107=some false:=by kernel_rfl
end Go.Proofs.YtockpdkdnlkkfaaGreat
namespace Go.Proofs.YtockpdkdnlkkfaaGreat
open Go.Abs
set_option maxRecDepth 100000
set_option maxHeartbeats 8000000
@[go_sem] theorem ty107_s:tSize Tryz.prog 107=some 1:=by kernel_rfl
end Go.Proofs.YtockpdkdnlkkfaaGreat
namespace Go.Proofs.YtockpdkdnlkkfaaGreat
open Go.Abs
set_option maxRecDepth 100000
set_option maxHeartbeats 8000000
@[go_sem] theorem go73:isGo Tryz.prog 73=true:=by kernel_rfl
end Go.Proofs.YtockpdkdnlkkfaaGreat
namespace Go.Proofs.YtockpdkdnlkkfaaGreat
open Go.Abs
set_option maxRecDepth 100000
set_option maxHeartbeats 8000000
@[go_sem] theorem go74:isGo Tryz.prog 74=true:=by kernel_rfl
end Go.Proofs.YtockpdkdnlkkfaaGreat
namespace Go.Proofs.YtockpdkdnlkkfaaGreat
open Go.Abs
set_option maxRecDepth 100000
set_option maxHeartbeats 8000000
@[go_sem] theorem fr43:Tryz.f43.results.toList=[.tmp 4,.tmp 5,.tmp 6]:=by kernel_rfl
end Go.Proofs.YtockpdkdnlkkfaaGreat
namespace Go.Proofs.YtockpdkdnlkkfaaGreat
open Go.Abs
set_option maxRecDepth 100000
set_option maxHeartbeats 8000000
@[go_sem] theorem fn43:Tryz.f43.ntmps=23:=by kernel_rfl
end Go.Proofs.YtockpdkdnlkkfaaGreat
namespace Go.Proofs.YtockpdkdnlkkfaaGreat
open Go.Abs
set_option maxRecDepth 100000
set_option maxHeartbeats 8000000
@[go_sem] theorem fr45:Tryz.f45.results.toList=[.tmp 4]:=by kernel_rfl
end Go.Proofs.YtockpdkdnlkkfaaGreat
namespace Go.Proofs.YtockpdkdnlkkfaaGreat
open Go.Abs
set_option maxRecDepth 100000
set_option maxHeartbeats 8000000
@[go_sem] theorem fn45:Tryz.f45.ntmps=19:=by kernel_rfl
end Go.Proofs.YtockpdkdnlkkfaaGreat
namespace Go.Proofs.YtockpdkdnlkkfaaGreat
open Go.Abs
set_option maxRecDepth 100000
set_option maxHeartbeats 8000000
@[go_sem] theorem go77:isGo Tryz.prog 77=true:=by kernel_rfl
end Go.Proofs.YtockpdkdnlkkfaaGreat
namespace Go.Proofs.YtockpdkdnlkkfaaGreat
open Go.Abs
set_option maxRecDepth 100000
set_option maxHeartbeats 8000000
@[go_sem] theorem fr46:Tryz.f46.results.toList=[.tmp 4,.tmp 5]:=by kernel_rfl
end Go.Proofs.YtockpdkdnlkkfaaGreat
namespace Go.Proofs.YtockpdkdnlkkfaaGreat
open Go.Abs
set_option maxRecDepth 100000
set_option maxHeartbeats 8000000
@[go_sem] theorem fn46:Tryz.f46.ntmps=24:=by kernel_rfl
end Go.Proofs.YtockpdkdnlkkfaaGreat
namespace Go.Proofs.YtockpdkdnlkkfaaGreat
open Go.Abs
set_option maxRecDepth 100000
set_option maxHeartbeats 8000000
@[go_sem] theorem fr48:Tryz.f48.results.toList=[.tmp 4]:=by kernel_rfl
end Go.Proofs.YtockpdkdnlkkfaaGreat
namespace Go.Proofs.YtockpdkdnlkkfaaGreat
open Go.Abs
set_option maxRecDepth 100000
set_option maxHeartbeats 8000000
@[go_sem] theorem fn48:Tryz.f48.ntmps=19:=by kernel_rfl
end Go.Proofs.YtockpdkdnlkkfaaGreat
namespace Go.Proofs.YtockpdkdnlkkfaaGreat
open Go.Abs
set_option maxRecDepth 100000
set_option maxHeartbeats 8000000
@[go_sem] theorem go79:isGo Tryz.prog 79=true:=by kernel_rfl
end Go.Proofs.YtockpdkdnlkkfaaGreat
namespace Go.Proofs.YtockpdkdnlkkfaaGreat
open Go.Abs
set_option maxRecDepth 100000
set_option maxHeartbeats 8000000
@[go_sem] theorem fr49:Tryz.f49.results.toList=[.tmp 2]:=by kernel_rfl
end Go.Proofs.YtockpdkdnlkkfaaGreat
namespace Go.Proofs.YtockpdkdnlkkfaaGreat
open Go.Abs
set_option maxRecDepth 100000
set_option maxHeartbeats 8000000
@[go_sem] theorem fn49:Tryz.f49.ntmps=28:=by kernel_rfl
end Go.Proofs.YtockpdkdnlkkfaaGreat
namespace Go.Proofs.YtockpdkdnlkkfaaGreat
open Go.Abs
set_option maxRecDepth 100000
set_option maxHeartbeats 8000000
@[go_sem] theorem go114:isGo Tryz.prog 114=true:=by kernel_rfl
end Go.Proofs.YtockpdkdnlkkfaaGreat
namespace Go.Proofs.YtockpdkdnlkkfaaGreat
open Go.Abs
set_option maxRecDepth 100000
set_option maxHeartbeats 8000000
@[go_sem] theorem fr73:Tryz.f73.results.toList=[.tmp 2]:=by kernel_rfl
end Go.Proofs.YtockpdkdnlkkfaaGreat
namespace Go.Proofs.YtockpdkdnlkkfaaGreat
open Go.Abs
set_option maxRecDepth 100000
set_option maxHeartbeats 8000000
@[go_sem] theorem fn73:Tryz.f73.ntmps=5:=by kernel_rfl
end Go.Proofs.YtockpdkdnlkkfaaGreat
namespace Go.Proofs.YtockpdkdnlkkfaaGreat
open Go.Abs
set_option maxRecDepth 100000
set_option maxHeartbeats 8000000
@[go_sem] theorem fr74:Tryz.f74.results.toList=[.tmp 2]:=by kernel_rfl
end Go.Proofs.YtockpdkdnlkkfaaGreat
namespace Go.Proofs.YtockpdkdnlkkfaaGreat
open Go.Abs
set_option maxRecDepth 100000
set_option maxHeartbeats 8000000
@[go_sem] theorem fn74:Tryz.f74.ntmps=27:=by kernel_rfl
end Go.Proofs.YtockpdkdnlkkfaaGreat
namespace Go.Proofs.YtockpdkdnlkkfaaGreat
open Go.Abs
set_option maxRecDepth 100000
set_option maxHeartbeats 8000000
@[go_sem] theorem go118:isGo Tryz.prog 118=true:=by kernel_rfl
end Go.Proofs.YtockpdkdnlkkfaaGreat
namespace Go.Proofs.YtockpdkdnlkkfaaGreat
open Go.Abs
set_option maxRecDepth 100000
set_option maxHeartbeats 8000000
@[go_sem] theorem fr77:Tryz.f77.results.toList=[.tmp 2]:=by kernel_rfl
end Go.Proofs.YtockpdkdnlkkfaaGreat
namespace Go.Proofs.YtockpdkdnlkkfaaGreat
open Go.Abs
set_option maxRecDepth 100000
set_option maxHeartbeats 8000000
@[go_sem] theorem fn77:Tryz.f77.ntmps=9:=by kernel_rfl
end Go.Proofs.YtockpdkdnlkkfaaGreat
namespace Go.Proofs.YtockpdkdnlkkfaaGreat
open Go.Abs
set_option maxRecDepth 100000
set_option maxHeartbeats 8000000
@[go_sem] theorem fr79:Tryz.f79.results.toList=[.tmp 4]:=by kernel_rfl
end Go.Proofs.YtockpdkdnlkkfaaGreat
namespace Go.Proofs.YtockpdkdnlkkfaaGreat
open Go.Abs
set_option maxRecDepth 100000
set_option maxHeartbeats 8000000
@[go_sem] theorem fn79:Tryz.f79.ntmps=27:=by kernel_rfl
end Go.Proofs.YtockpdkdnlkkfaaGreat
namespace Go.Proofs.YtockpdkdnlkkfaaGreat
open Go.Abs
set_option maxRecDepth 100000
set_option maxHeartbeats 8000000
@[go_sem] theorem go155:isGo Tryz.prog 155=true:=by kernel_rfl
end Go.Proofs.YtockpdkdnlkkfaaGreat
namespace Go.Proofs.YtockpdkdnlkkfaaGreat
open Go.Abs
set_option maxRecDepth 100000
set_option maxHeartbeats 8000000
@[go_sem] theorem fr114:Tryz.f114.results.toList=[.tmp 4]:=by kernel_rfl
end Go.Proofs.YtockpdkdnlkkfaaGreat
namespace Go.Proofs.YtockpdkdnlkkfaaGreat
open Go.Abs
set_option maxRecDepth 100000
set_option maxHeartbeats 8000000
@[go_sem] theorem fn114:Tryz.f114.ntmps=23:=by kernel_rfl
end Go.Proofs.YtockpdkdnlkkfaaGreat
namespace Go.Proofs.YtockpdkdnlkkfaaGreat
open Go.Abs
set_option maxRecDepth 100000
set_option maxHeartbeats 8000000
@[go_sem] theorem go159:isGo Tryz.prog 159=true:=by kernel_rfl
end Go.Proofs.YtockpdkdnlkkfaaGreat
namespace Go.Proofs.YtockpdkdnlkkfaaGreat
open Go.Abs
set_option maxRecDepth 100000
set_option maxHeartbeats 8000000
@[go_sem] theorem fr118:Tryz.f118.results.toList=[.tmp 2]:=by kernel_rfl
end Go.Proofs.YtockpdkdnlkkfaaGreat
namespace Go.Proofs.YtockpdkdnlkkfaaGreat
open Go.Abs
set_option maxRecDepth 100000
set_option maxHeartbeats 8000000
@[go_sem] theorem fn118:Tryz.f118.ntmps=16:=by kernel_rfl
end Go.Proofs.YtockpdkdnlkkfaaGreat
namespace Go.Proofs.YtockpdkdnlkkfaaGreat
open Go.Abs
set_option maxRecDepth 100000
set_option maxHeartbeats 8000000
@[go_sem] theorem fr155:Tryz.f155.results.toList=[.tmp 4]:=by kernel_rfl
end Go.Proofs.YtockpdkdnlkkfaaGreat
namespace Go.Proofs.YtockpdkdnlkkfaaGreat
open Go.Abs
set_option maxRecDepth 100000
set_option maxHeartbeats 8000000
@[go_sem] theorem fn155:Tryz.f155.ntmps=31:=by kernel_rfl
end Go.Proofs.YtockpdkdnlkkfaaGreat
namespace Go.Proofs.YtockpdkdnlkkfaaGreat
open Go.Abs
set_option maxRecDepth 100000
set_option maxHeartbeats 8000000
@[go_sem] theorem go178:isGo Tryz.prog 178=true:=by kernel_rfl
end Go.Proofs.YtockpdkdnlkkfaaGreat
namespace Go.Proofs.YtockpdkdnlkkfaaGreat
open Go.Abs
set_option maxRecDepth 100000
set_option maxHeartbeats 8000000
@[go_sem] theorem fr159:Tryz.f159.results.toList=[.tmp 2]:=by kernel_rfl
end Go.Proofs.YtockpdkdnlkkfaaGreat
namespace Go.Proofs.YtockpdkdnlkkfaaGreat
open Go.Abs
set_option maxRecDepth 100000
set_option maxHeartbeats 8000000
@[go_sem] theorem fn159:Tryz.f159.ntmps=5:=by kernel_rfl
end Go.Proofs.YtockpdkdnlkkfaaGreat
namespace Go.Proofs.YtockpdkdnlkkfaaGreat
open Go.Abs
set_option maxRecDepth 100000
set_option maxHeartbeats 8000000
@[go_sem] theorem fr178:Tryz.f178.results.toList=[.tmp 4]:=by kernel_rfl
end Go.Proofs.YtockpdkdnlkkfaaGreat
namespace Go.Proofs.YtockpdkdnlkkfaaGreat
open Go.Abs
set_option maxRecDepth 100000
set_option maxHeartbeats 8000000
@[go_sem] theorem fn178:Tryz.f178.ntmps=10:=by kernel_rfl
end Go.Proofs.YtockpdkdnlkkfaaGreat
namespace Go.Proofs.YtockpdkdnlkkfaaGreat
open Go.Abs
set_option maxRecDepth 100000
set_option maxHeartbeats 8000000
@[go_sem] theorem fr179:Tryz.f179.results.toList=[.tmp 2]:=by kernel_rfl
end Go.Proofs.YtockpdkdnlkkfaaGreat
namespace Go.Proofs.YtockpdkdnlkkfaaGreat
open Go.Abs
set_option maxRecDepth 100000
set_option maxHeartbeats 8000000
@[go_sem] theorem fn179:Tryz.f179.ntmps=5:=by kernel_rfl
end Go.Proofs.YtockpdkdnlkkfaaGreat
namespace Go.Proofs.YtockpdkdnlkkfaaGreat
open Go.Abs
set_option maxRecDepth 100000
set_option maxHeartbeats 8000000
@[go_sem] theorem fr186:Tryz.f186.results.toList=[]:=by kernel_rfl
end Go.Proofs.YtockpdkdnlkkfaaGreat
namespace Go.Proofs.YtockpdkdnlkkfaaGreat
open Go.Abs
set_option maxRecDepth 100000
set_option maxHeartbeats 8000000
@[go_sem] theorem fn186:Tryz.f186.ntmps=11:=by kernel_rfl
end Go.Proofs.YtockpdkdnlkkfaaGreat
set_option linter.unusedVariables false
set_option linter.unusedSimpArgs false
namespace Go.Abs
open Go.Abs
set_option maxRecDepth 100000
set_option maxHeartbeats 8000000
theorem foldl_any {α:Type} (q:α→Bool):∀(l:List α) (b:Bool),l.foldl (fun b x=>b || q x) b=(b || l.any q)
 | [],b=>by simp
 | x :: r,b=>by rw [List.foldl_cons,foldl_any q r,List.any_cons,Bool.or_assoc]
end Go.Abs
namespace Go.Abs
open Go.Abs
set_option maxRecDepth 100000
set_option maxHeartbeats 8000000
theorem Gl.only_eq (pure:Bool) (g:Gl):g.only pure=(g.goals.all (Gl.only pure) && Gl.onlyK pure g.kind):=by
 unfold Gl.only
 rw [Gl.subs_eq,List.all_cons,Gl.subss_eq,all_flatMap,Bool.and_comm]
end Go.Abs
namespace Go.Abs
open Go.Abs
set_option maxRecDepth 100000
set_option maxHeartbeats 8000000
theorem Gl.only_neg (g:Gl):(g.subs.any fun x=>decide (x.kind=10))=!g.only false:=by
 unfold Gl.only
 rw [List.not_all_eq_any_not]
 congr 1
 funext x
 simp [Gl.onlyK]
end Go.Abs
set_option linter.unusedVariables false
set_option linter.unusedSimpArgs false
namespace Go.Abs
open Go.Abs
set_option maxRecDepth 100000
set_option maxHeartbeats 8000000
theorem stg_le (rs:List RV) {j k:Nat} (h:j≤k):∀f,f∈stg rs j→f∈stg rs k:=by
 induction h with
 | refl=>exact fun f hf=>hf
 | step _ ih=>exact fun f hf=>stg_sub rs _ f (ih f hf)
end Go.Abs
namespace Go.Abs
open Go.Abs
set_option maxRecDepth 100000
set_option maxHeartbeats 8000000
theorem stg_len (rs:List RV) (k:Nat):(stg rs k).length≤rs.length:=by
 cases k with
 | zero=>simp [stg]
 | succ k=>exact nextF_len _ _ _
end Go.Abs
namespace Go.Abs
open Go.Abs
set_option maxRecDepth 100000
set_option maxHeartbeats 8000000
theorem stg_grow {rs:List RV} {k:Nat} (h:stg rs (k+1)≠stg rs k):(stg rs k).length<(stg rs (k+1)).length:=by
 have h1:=(ascC_len FcV.cmp_lin _ _ (stg_asc rs k) (stg_asc rs (k+1)) (stg_sub rs k)).1
 have h2:(stg rs (k+1)).length≠(stg rs k).length:=fun e=>h (stg_eq_len.1 e)
 omega
end Go.Abs
namespace Go.Abs
open Go.Abs
set_option maxRecDepth 100000
set_option maxHeartbeats 8000000
theorem top_spec (rs:List RV):top rs≤rs.length∧stg rs (top rs+1)=stg rs (top rs)∧∀k,k<top rs→stg rs (k+1)≠stg rs k:=by
 obtain ⟨k1,k2,k3⟩:=srch_spec (p:=fun k=>decide (stg rs (k+1)=stg rs k)) (n:=rs.length+1)
 have h2:∀k,k<top rs→stg rs (k+1)≠stg rs k:=fun k hk=>by have:=k2 k hk;simpa using this
 have h4:∀k,k≤top rs→k≤(stg rs k).length:=fun k=>by
  induction k with
  | zero=>intro _;omega
  | succ k ih =>
   intro hk
   have h5:=stg_grow (h2 k (by omega))
   have h6:=ih (by omega)
   omega
 have h5:=h4 (top rs) (Nat.le_refl _)
 have h6:=stg_len rs (top rs)
 have h7:top rs<rs.length+1:=by omega
 refine ⟨by omega,?_,h2⟩
 have:=k3 h7
 exact of_decide_eq_true this
end Go.Abs
namespace Go.Abs
open Go.Abs
set_option maxRecDepth 100000
set_option maxHeartbeats 8000000
theorem top_eq {rs:List RV} {k:Nat} (h:stg rs (k+1)=stg rs k) (hb:∀j,j<k→stg rs (j+1)≠stg rs j):k=top rs:=by
 obtain ⟨_,t2,t3⟩:=top_spec rs
 rcases Nat.lt_trichotomy k (top rs) with e | e | e
 ·exact absurd h (t3 k e)
 ·exact e
 ·exact absurd t2 (hb _ e)
end Go.Abs
namespace Go.Abs
open Go.Abs
set_option maxRecDepth 100000
set_option maxHeartbeats 8000000
def hgt (rs:List RV) (f:FcV):Int:=
 if f∈stg rs (top rs) then (srch (fun k=>decide (f∈stg rs k)) (top rs+1):Int) else -1
end Go.Abs
set_option linter.unusedVariables false
set_option linter.unusedSimpArgs false
namespace Go.Proofs.YtockpdkdnlkkfaaGreat
open Go.Abs
set_option maxRecDepth 100000
set_option maxHeartbeats 8000000
theorem neg1_fn (k:Int):Gives Tryz.prog 179 [.int .i64 k] (.d (.bool (decide (k=10)))):=by
 refine ACalls.enter (fn:=Tryz.f179) Tryz.func179 rfl (by show 1≤_;decide) ?_
 refine run_sound Tryz.func179 mixed 200 _ _ (by kernel_rfl) ?_
 simp only [go_sem,seval]
end Go.Proofs.YtockpdkdnlkkfaaGreat
namespace Go.Proofs.YtockpdkdnlkkfaaGreat
open Go.Abs
set_option maxRecDepth 100000
set_option maxHeartbeats 8000000
theorem hk1_clo (gb:List D) (f:FuncId) (q:Int→Bool) (hgo:isGo Tryz.prog f=true) (hf:∀k,Gives Tryz.prog f [.int .i64 k] (.d (.bool (q k)))):Clo Tryz.prog 186 [.ptr 2 0,.ptr 1 0] 3 (fun x:Gl=>D.agg x.enc) (fun b:Bool=>[.box (gb.map .d),.box [.fn f []],.box [.d (.bool b)]]) (fun _=>True) (fun b x=>b || q x.kind):=by
 refine ⟨by kernel_rfl,rfl,fun _=>rfl,fun a=>by simp only [List.all_cons,List.all_nil,O.refsLt,all_dmap,C.refsLt,C.refsLt1];rfl,fun a x _=>?_⟩
 refine ACalls.enter (fn:=Tryz.f186) Tryz.func186 rfl (by show 3≤_;decide) ?_
 refine run_sound Tryz.func186 mixed 200 _ _ (by kernel_rfl) ?_
 simp only [go_sem,seval,hgo]
 repeat' (first
  | ((refine br_n (fun hq=>?_) (fun hq=>?_))<;>(try simp only [go_sem,seval,hgo,hq]))
  | ((refine (hf _).calls rfl ?_)<;>(try simp only [go_sem,seval,hgo]))
  | fail)
 all_goals simp only [all_dmap,Bool.false_or,Bool.true_or]
end Go.Proofs.YtockpdkdnlkkfaaGreat
namespace Go.Proofs.YtockpdkdnlkkfaaGreat
open Go.Abs
set_option maxRecDepth 100000
set_option maxHeartbeats 8000000
theorem hasKind_fn (g:Gl) (f:FuncId) (q:Int→Bool) (hgo:isGo Tryz.prog f=true) (hf:∀k,Gives Tryz.prog f [.int .i64 k] (.d (.bool (q k)))):ACalls Tryz.prog 178 [.d (.agg g.enc),.fn f []] [] (fun c H'=>c=.d (.bool (g.subs.any fun x=>q x.kind))∧H'=[]):=by
 have e1:=eachGoal_fn (hk1_clo g.enc f q hgo hf) g false (fun _ _=>trivial)
 rw [foldl_any,Bool.false_or] at e1
 generalize (g.subs.any fun x=>q x.kind)=N at e1 ⊢
 refine ACalls.enter (fn:=Tryz.f178) Tryz.func178 rfl (by show 2≤_;decide) ?_
 refine run_sound Tryz.func178 mixed 200 _ _ (by kernel_rfl) ?_
 simp only [go_sem,seval]
 repeat' (first
  | ((refine ACalls.mono e1 ?_<;>(rintro c H' ⟨rfl,rfl⟩))<;>(try simp only [go_sem,seval]))
  | fail)
end Go.Proofs.YtockpdkdnlkkfaaGreat
namespace Go.Proofs.YtockpdkdnlkkfaaGreat
open Go.Abs
set_option maxRecDepth 100000
set_option maxHeartbeats 8000000
theorem negative_fn (g:Gl):Gives Tryz.prog 159 [.agg g.enc] (.d (.bool (!g.only false))):=by
 rw [←Gl.only_neg]
 have e1:=hasKind_fn g 179 (fun k=>decide (k=10)) (by kernel_rfl) neg1_fn
 generalize (g.subs.any fun x=>decide (x.kind=10))=N at e1 ⊢
 refine ACalls.enter (fn:=Tryz.f159) Tryz.func159 rfl (by show 1≤_;decide) ?_
 refine run_sound Tryz.func159 mixed 200 _ _ (by kernel_rfl) ?_
 simp only [go_sem,seval]
 repeat' (first
  | ((refine e1.frame (X:=[_]) rfl rfl ?_<;>(rintro c H' ⟨rfl,rfl⟩ _))<;>(try simp only [go_sem,seval]))
  | fail)
end Go.Proofs.YtockpdkdnlkkfaaGreat
namespace Go.Proofs.YtockpdkdnlkkfaaGreat
open Go.Abs
set_option maxRecDepth 100000
set_option maxHeartbeats 8000000
theorem positive_fn (p:Pg):Gives Tryz.prog 118 [.agg p.enc] (.d (.bool (p.rels.all fun r=>r.body.only false))):=by
 refine ACalls.enter (fn:=Tryz.f118) Tryz.func118 rfl (by show 1≤_;decide) ?_
 refine run_sound Tryz.func118 mixed 200 _ _ (by kernel_rfl) ?_
 simp only [go_sem,seval]
 refine AW.rng p.rels [6,7] 8 6 (fun _:Unit=>[]) (fun H _=>H) (fun r _=>(r.all fun r=>r.body.only false)=p.rels.all fun r=>r.body.only false) () rfl (by simp) rfl (by refine ⟨by simp [mkS],by simp [mkS],by simp [mkS,O.refsLt,C.refsLt,C.refsLt1],?_⟩;simp [mkS,Abs.get,C.refsLtT,C.refsLt,C.refsLt1]) (fun i x r acc hxi hdr hlt hm hinv hnext=>?_) (fun acc hinv=>?_)
 ·rw [List.all_cons] at hinv
  refine run_sound Tryz.func118 mixed 200 _ _ (by kernel_rfl) ?_
  simp only [go_sem,seval,hlt,idx_of hxi]
  repeat' (first
   | ((refine br_n (fun hq=>?_) (fun hq=>?_))<;>(try simp only [go_sem,seval,hq]))
   | (simp (disch:=omega) only [wrap_ok])
   | (refine hnext () _ ?_ (by refine ⟨by simp [mkS],by simp [mkS],by simp [mkS,O.refsLt,C.refsLt,C.refsLt1],?_⟩;simp [mkS,Abs.get,C.refsLtT,C.refsLt,C.refsLt1]))
   | ((refine (negative_fn _).calls rfl ?_)<;>(try simp only [go_sem,seval]))
   | fail)
  all_goals clear hnext
  all_goals (rw [←hinv];simp_all;done)
 ·rw [List.all_nil] at hinv
  refine run_sound Tryz.func118 mixed 200 _ _ (by kernel_rfl) ?_
  simp only [go_sem,seval]
  rw [←hinv]
end Go.Proofs.YtockpdkdnlkkfaaGreat
namespace Go.Proofs.YtockpdkdnlkkfaaGreat
open Go.Abs
set_option maxRecDepth 100000
set_option maxHeartbeats 8000000
theorem iIsPositive_fn (p:Pg) (hw:wtL p.enc≤1048576):Gives Tryz.prog 77 [.agg p.enc] (.d (.bool (p.all false))):=by
 have hp:p.all false=(pgOk p && p.rels.all fun r=>r.body.only false):=rfl
 rw [hp]
 refine ACalls.enter (fn:=Tryz.f77) Tryz.func77 rfl (by show 1≤_;decide) ?_
 refine run_sound Tryz.func77 mixed 200 _ _ (by kernel_rfl) ?_
 simp only [go_sem,seval]
 repeat' (first
  | ((refine br_n (fun hq=>?_) (fun hq=>?_))<;>(try simp only [go_sem,seval,hq]))
  | ((first
   | (refine (iProgramOk_fn _ sd).calls rfl ?_)
   | (refine (positive_fn _).calls rfl ?_))<;>(try simp only [go_sem,seval]))
  | fail)
 all_goals simp [*]
end Go.Proofs.YtockpdkdnlkkfaaGreat
namespace Go.Proofs.YtockpdkdnlkkfaaGreat
open Go.Abs
set_option maxRecDepth 100000
set_option maxHeartbeats 8000000
theorem l14Only_fn (pu:Bool):∀(t:Gl),Gives Tryz.prog 155 [.agg t.enc,.bool pu] (.d (.bool (t.only pu))):=by
 intro t
 induction t using Gl.ind' with
 | h t ih =>
  have h0:=Gl.only_eq pu t
  have h1:Gl.onlyK pu t.kind=(decide (t.kind≠10) && !(pu && (decide (3≤t.kind) && decide (t.kind≤6)))):=rfl
  rw [h1] at h0
  clear h1
  generalize t.only pu=N at h0 ⊢
  refine ACalls.enter (fn:=Tryz.f155) Tryz.func155 rfl (by show 2≤_;decide) ?_
  refine run_sound Tryz.func155 mixed 200 _ _ (by kernel_rfl) ?_
  simp only [go_sem,seval]
  refine AW.rng t.goals [1,2,8,9] 10 8 (fun _:Unit=>[]) (fun H _=>H) (fun r _=>r.all (Gl.only pu)=t.goals.all (Gl.only pu)) () rfl (by simp) rfl (by refine ⟨by simp [mkS],by simp [mkS],by simp [mkS,O.refsLt,C.refsLt,C.refsLt1],?_⟩;simp [mkS,Abs.get,C.refsLtT,C.refsLt,C.refsLt1]) (fun i x r acc hxi hdr hlt hm hinv hnext=>?_) (fun acc hinv=>?_)
  ·have ihx:=ih x (List.mem_of_getElem? hxi)
   rw [List.all_cons] at hinv
   refine run_sound Tryz.func155 mixed 200 _ _ (by kernel_rfl) ?_
   simp only [go_sem,seval,hlt,idx_of hxi]
   repeat' (first
    | ((refine br_n (fun hq=>?_) (fun hq=>?_))<;>(try simp only [go_sem,seval,hq]))
    | (simp (disch:=omega) only [wrap_ok])
    | (refine hnext () _ ?_ (by refine ⟨by simp [mkS],by simp [mkS],by simp [mkS,O.refsLt,C.refsLt,C.refsLt1],?_⟩;simp [mkS,Abs.get,C.refsLtT,C.refsLt,C.refsLt1]))
    | ((refine ihx.calls rfl ?_)<;>(try simp only [go_sem,seval]))
    | fail)
   all_goals clear hnext ihx ih
   all_goals first | (rw [h0,←hinv];simp [*];done) | (rw [←hinv];simp [*];done)
  ·rw [List.all_nil] at hinv
   rw [←hinv,Bool.true_and] at h0
   clear hinv ih
   refine run_sound Tryz.func155 mixed 200 _ _ (by kernel_rfl) ?_
   simp only [go_sem,seval]
   repeat' (first
    | ((refine br_n (fun hq=>?_) (fun hq=>?_))<;>(try simp only [go_sem,seval,hq]))
    | ((refine (l01In_fn _ _ _).calls rfl ?_)<;>(try simp only [go_sem,seval]))
    | fail)
   all_goals (rw [h0];clear h0;simp_all)
end Go.Proofs.YtockpdkdnlkkfaaGreat
namespace Go.Proofs.YtockpdkdnlkkfaaGreat
open Go.Abs
set_option maxRecDepth 100000
set_option maxHeartbeats 8000000
theorem l14All_fn (pu:Bool) (p:Pg) (hw:wtL p.enc≤1048576):Gives Tryz.prog 114 [.agg p.enc,.bool pu] (.d (.bool (p.all pu))):=by
 have hp:p.all pu=(pgOk p && p.rels.all fun r=>r.body.only pu):=rfl
 rw [hp]
 by_cases hok:pgOk p=true
 ·rw [hok,Bool.true_and]
  refine ACalls.enter (fn:=Tryz.f114) Tryz.func114 rfl (by show 2≤_;decide) ?_
  refine run_sound Tryz.func114 mixed 200 _ _ (by kernel_rfl) ?_
  simp only [go_sem,seval,hok]
  repeat' (first
   | ((refine (sProgramOk_fn _ sd).calls rfl ?_)<;>(try simp only [go_sem,seval,hok]))
   | fail)
  refine AW.rng p.rels [1,11,12] 13 11 (fun _:Unit=>[]) (fun H _=>H) (fun r _=>(r.all fun r=>r.body.only pu)=p.rels.all fun r=>r.body.only pu) () rfl (by simp) rfl (by refine ⟨by simp [mkS],by simp [mkS],by simp [mkS,O.refsLt,C.refsLt,C.refsLt1],?_⟩;simp [mkS,Abs.get,C.refsLtT,C.refsLt,C.refsLt1]) (fun i x r acc hxi hdr hlt hm hinv hnext=>?_) (fun acc hinv=>?_)
  ·rw [List.all_cons] at hinv
   refine run_sound Tryz.func114 mixed 200 _ _ (by kernel_rfl) ?_
   simp only [go_sem,seval,hlt,idx_of hxi]
   repeat' (first
    | ((refine br_n (fun hq=>?_) (fun hq=>?_))<;>(try simp only [go_sem,seval,hq]))
    | (simp (disch:=omega) only [wrap_ok])
    | (refine hnext () _ ?_ (by refine ⟨by simp [mkS],by simp [mkS],by simp [mkS,O.refsLt,C.refsLt,C.refsLt1],?_⟩;simp [mkS,Abs.get,C.refsLtT,C.refsLt,C.refsLt1]))
    | ((refine (l14Only_fn _ _).calls rfl ?_)<;>(try simp only [go_sem,seval]))
    | fail)
   all_goals clear hnext
   all_goals (rw [←hinv];simp_all;done)
  ·rw [List.all_nil] at hinv
   refine run_sound Tryz.func114 mixed 200 _ _ (by kernel_rfl) ?_
   simp only [go_sem,seval]
   rw [←hinv]
 ·simp only [Bool.not_eq_true] at hok
  rw [hok]
  refine ACalls.enter (fn:=Tryz.f114) Tryz.func114 rfl (by show 2≤_;decide) ?_
  refine run_sound Tryz.func114 mixed 200 _ _ (by kernel_rfl) ?_
  simp only [go_sem,seval,hok]
  repeat' (first
   | ((refine (sProgramOk_fn _ sd).calls rfl ?_)<;>(try simp only [go_sem,seval,hok]))
   | fail)
end Go.Proofs.YtockpdkdnlkkfaaGreat
namespace Go.Proofs.YtockpdkdnlkkfaaGreat
open Go.Abs
set_option maxRecDepth 100000
set_option maxHeartbeats 8000000
theorem sIsPositive_fn (p:Pg) (hw:wtL p.enc≤1048576):Gives Tryz.prog 73 [.agg p.enc] (.d (.bool (p.all false))):=by
 refine ACalls.enter (fn:=Tryz.f73) Tryz.func73 rfl (by show 1≤_;decide) ?_
 refine run_sound Tryz.func73 mixed 200 _ _ (by kernel_rfl) ?_
 simp only [go_sem,seval]
 repeat' (first
  | ((refine (l14All_fn _ _ sd).calls rfl ?_)<;>(try simp only [go_sem,seval]))
  | fail)
end Go.Proofs.YtockpdkdnlkkfaaGreat
set_option linter.unusedVariables false
set_option linter.unusedSimpArgs false
namespace Go.Proofs.YtockpdkdnlkkfaaGreat
open Go.Abs
set_option maxRecDepth 100000
set_option maxHeartbeats 8000000
theorem sameFacts_fn (a b:List FcV) (ha:a.length≤9000000) (hb:b.length≤9000000):Gives Tryz.prog 79 [.sl (a.map fcE),.sl (b.map fcE)] (.d (.bool (decide (a=b)))):=by
 have hmx:maxLen=9223372036854775807:=rfl
 have hmap:∀x:List FcV,(x.map fcE).length=x.length:=fun x=>List.length_map _
 by_cases hlen:a.length=b.length
 ·obtain ⟨RES,hRES⟩:∃RES,decide (a=b)=RES:=⟨_,rfl⟩
  rw [hRES]
  have n1:(a.length:Int)=(b.length:Int):=by omega
  refine ACalls.enter (fn:=Tryz.f79) Tryz.func79 rfl (by show 2≤_;decide) ?_
  refine run_sound Tryz.func79 mixed 200 _ _ (by kernel_rfl) ?_
  simp only [go_sem,seval,hmap,n1]
  refine AW.lp [0,1,12] (fun i:Nat=>[(13,.d (.int .i64 (i:Int)))]) (fun H _=>H) (fun i=>i≤a.length∧a.take i=b.take i) (fun i=>a.length - i) 0 ⟨Nat.zero_le _,rfl⟩ (by refine ⟨by simp [mkS],by simp [mkS],by simp only [mkS,List.all_cons,List.all_nil,O.refsLt,C.refsLt,C.refsLt1,all_dmap];first | done | rfl | (simp;done),?_⟩;simp [mkS,Abs.get,C.refsLtT,C.refsLt,C.refsLt1]) ?_
  intro i hi hni
  obtain ⟨h1,h2⟩:=hi
  by_cases hia:i<a.length
  ·have n2:(i:Int)<(b.length:Int):=by omega
   have n3:(i:Int)<(a.length:Int):=by omega
   obtain ⟨x,hx⟩:∃x,a[i]? = some x:=⟨_,List.getElem?_eq_getElem hia⟩
   obtain ⟨y,hy⟩:∃y,b[i]? = some y:=⟨_,List.getElem?_eq_getElem (hlen ▸ hia)⟩
   have ho:=orderF_fn x y
   have w1:IntKind.i64.wrap ((i:Int)+1)=((i+1:Nat):Int):=by rw [wrap_ok (by omega) (by omega)];omega
   by_cases hxy:x.cmp y=0
   ·have he:=(FcV.cmp_lin.zero _ _).1 hxy
    rw [hxy] at ho
    refine run_sound Tryz.func79 mixed 10 _ _ (by kernel_rfl) ?_
    simp only [go_sem,seval,run.eq_1,n2,n3,hmap]
    refine AW.drawA mixed #[true,true,true,true,true,true,true,true,true,false] [] [] [0,1,2,3,4,5,6,7,8] [9] none (by kernel_rfl) trivial (by simp [holdsB]) ?_
    simp only [go_sem,seval,hmap,n2,n3,idx_of hx,idx_of hy]
    repeat' (first
     | ((refine ho.calls rfl ?_)<;>(try simp only [go_sem,seval,w1]))
     | fail)
    refine run_sound Tryz.func79 mixed 200 _ _ (by kernel_rfl) ?_
    simp only [go_sem,seval]
    repeat' (first
     | (simp (disch:=omega) only [wrap_ok])
     | fail)
    refine hni (i+1) _ ⟨by omega,by rw [List.take_add_one,List.take_add_one,h2,hx,hy,he]⟩ (by omega) (by refine ⟨by simp [mkS],by simp [mkS],by simp only [mkS,List.all_cons,List.all_nil,O.refsLt,C.refsLt,C.refsLt1,all_dmap];first | done | rfl | (simp;done),?_⟩;simp [mkS,Abs.get,C.refsLtT,C.refsLt,C.refsLt1])
   ·have he:a≠b:=fun e=>hxy (by rw [e,hy] at hx;cases hx;exact (FcV.cmp_lin.zero _ _).2 rfl)
    rw [decide_eq_false he] at hRES
    subst hRES
    refine run_sound Tryz.func79 mixed 10 _ _ (by kernel_rfl) ?_
    simp only [go_sem,seval,run.eq_1,n2,n3,hmap]
    refine AW.drawA mixed #[true,true,true,true,true,true,true,true,true,false] [] [] [0,1,2,3,4,5,6,7,8] [9] none (by kernel_rfl) trivial (by simp [holdsB]) ?_
    simp only [go_sem,seval,hmap,n2,n3,idx_of hx,idx_of hy]
    repeat' (first
     | ((refine ho.calls rfl ?_)<;>(try simp only [go_sem,seval,w1,hxy]))
     | fail)
    refine run_sound Tryz.func79 mixed 200 _ _ (by kernel_rfl) ?_
    simp only [go_sem,seval,hxy]
    repeat' (first
     | ((refine br_n (fun hq=>?_) (fun hq=>?_))<;>(try simp only [go_sem,seval,w1,hxy,hq]))
     | fail)
    all_goals exact absurd (by assumption) hxy
  ·have n2:¬(i:Int)<(b.length:Int):=by omega
   have n3:¬(i:Int)<(a.length:Int):=by omega
   have he:a=b:=by rw [List.take_of_length_le (by omega),List.take_of_length_le (by omega)] at h2;exact h2
   rw [decide_eq_true he] at hRES
   subst hRES
   refine run_sound Tryz.func79 mixed 200 _ _ (by kernel_rfl) ?_
   simp only [go_sem,seval,n2,n3]
 ·have n1:¬(a.length:Int)=(b.length:Int):=by omega
  rw [decide_eq_false (fun e=>hlen (by rw [e]))]
  refine ACalls.enter (fn:=Tryz.f79) Tryz.func79 rfl (by show 2≤_;decide) ?_
  refine run_sound Tryz.func79 mixed 200 _ _ (by kernel_rfl) ?_
  simp only [go_sem,seval,hmap,n1]
  repeat' (first
   | ((refine br_n (fun hq=>?_) (fun hq=>?_))<;>(try simp only [go_sem,seval,hmap,n1,hq]))
   | fail)
  all_goals (exfalso;omega)
end Go.Proofs.YtockpdkdnlkkfaaGreat
set_option linter.unusedVariables false
set_option linter.unusedSimpArgs false
namespace Go.Proofs.YtockpdkdnlkkfaaGreat
open Go.Abs
set_option maxRecDepth 100000
set_option maxHeartbeats 8000000
theorem vcOpL0_sound {P:Program} {s:St} {o:Oper} {K:C→List O→Prop} (h:vcOpL0 P s o K):EffOk P s o K:=by
 unfold vcOpL0 at h
 split at h
 ·exact vcOpT_sound h
 ·exact vcOpL_sound h
end Go.Proofs.YtockpdkdnlkkfaaGreat
namespace Go.Proofs.YtockpdkdnlkkfaaGreat
open Go.Abs
set_option maxRecDepth 100000
set_option maxHeartbeats 8000000
theorem vcRL0_sound {P:Program} {n:Nat} {K:St→Prop} {ops:Array Oper} {E0:Env}:∀(os:List Oper) (l:List Nat) (s:St) (E:Env) (a:Act),l.map (ops[·]?)=os.map some→RepSt E n s a→Le E0 E→vcRL0 P n K os s →
  wpOps P ops (Behind n E0 K) l a E.w
 | [],l,s,E,a,hl,hst,hle,h=>by
  have:l=[]:=by simpa using hl
  subst this
  exact ⟨rfl,E,s,rfl,hst,hle,h⟩
 | o :: os,l,s,E,a,hl,hst,hle,h=>by
  cases l with
  | nil=>simp at hl
  | cons i l =>
   simp only [List.map_cons,List.cons.injEq] at hl
   obtain ⟨ho,hl⟩:=hl
   unfold vcRL0 at h
   obtain ⟨hd,hg,h⟩:=h
   have hdst:∀d,o.dst=some d→d<n:=fun d hd'=>by
    unfold okDst at hd
    rw [hd'] at hd
    simpa using hd
   rw [Go.wpOps_cons]
   refine wpOp_of (n:=n) ho hg ((vcOpL0_sound h).run hst (fun v E' c H' h1 h2 h3 h4=>?_))
   exact vcRL0_sound os l _ E' _ hl (hst.put h3 h2 hdst h1) (hle.trans h3) h4
end Go.Proofs.YtockpdkdnlkkfaaGreat
namespace Go.Proofs.YtockpdkdnlkkfaaGreat
open Go.Abs
set_option maxRecDepth 100000
set_option maxHeartbeats 8000000
theorem AWregL0 {P:Program} {n:Nat} {f:FuncId} {n0:Nat} {R:C→List O→Prop} {id:Nat} {ops:Array Oper} {k:List Item} {s:St} (h:vcRL0 P n (AW P f n n0 R k) ops.toList s):AW P f n n0 R (.code (.region id ops false) :: k) s:=by
 refine AW.of_behind (k':=k) fun _ E a b cs hst=>?_
 have hw:=vcRL0_sound (ops:=ops) ops.toList (List.range ops.size) s E a (by
  apply List.ext_getElem?
  intro j
  simp only [List.getElem?_map]
  by_cases hj:j<ops.size
  ·rw [List.getElem?_range hj]
   simp [hj]
  ·rw [List.getElem?_eq_none (by simpa using hj),List.getElem?_eq_none (by simpa using hj)]
   rfl) hst (Le.refl E) h
 obtain ⟨e,a',w',⟨rfl,E',s',rfl,h1,h2,h3⟩,harr⟩:=wp_region (id:=id) hw b k cs
 exact ⟨a',E',s',harr,h1,h2,h3⟩
end Go.Proofs.YtockpdkdnlkkfaaGreat
namespace Go.Proofs.YtockpdkdnlkkfaaGreat
open Go.Abs
set_option maxRecDepth 100000
set_option maxHeartbeats 8000000
theorem AWbufG {P:Program} {f:FuncId} {n n0:Nat} {R:C→List O→Prop} {k:List Item} {s:St} (r:Nat) {q z e:Nat} {xs:List (List D)} (hr:s.H[r]? = some (.buf q z e xs))
  (h:AW P f n n0 R k ⟨s.σ,s.H.set r (.grow q z e xs)⟩):AW P f n n0 R k s:=by
 refine AW.recast (s':=⟨s.σ,s.H.set r (.grow q z e xs)⟩) (fun h0 E a hst=>?_)
 obtain ⟨h1,h2,h3,h4⟩:=hst.heap.obj r _ hr
 have hrl:=(List.getElem?_eq_some_iff.1 hr).1
 rcases h4 with ⟨ad,h5,rfl⟩ | ⟨b0,cap,arr,h5,h6,h7,h8,h9,h10,h11,h12⟩
 ·refine ⟨E,rfl,Le.refl E,⟨hst.size,hst.defers,?_,hst.slot⟩,h⟩
  refine hst.heap.turn (r0:=r) (o0:=.grow q z e []) (Le.refl E) (by simp [hst.heap.N]) (fun r' hr'=>?_) (fun o' ho'=>?_) (fun _ _ _=>rfl) (fun r' o' b hr' ho' hb=>⟨rfl,fun i hs=>hs⟩) (fun _ hb=>hb) (fun b i hs=>hst.heap.Slt b i hs) ⟨h1,h2,h3,.inl ⟨ad,h5,rfl⟩⟩ (fun b hb=>by have hb':ownB (E.τ r).2=some b:=hb;rw [h5] at hb';cases ad<;>simp [ownB] at hb')
  ·rw [List.getElem?_set_ne (fun e=>hr' e.symm)]
  ·rw [List.getElem?_set_self hrl] at ho'
   exact (Option.some.inj ho').symm
 ·have hx:=List.length_pos_iff.2 h7
  have hblk:(O.buf q z e xs).block E r b0:=by simp [O.block,h5,ownB];omega
  have hpv:=hst.heap.pv r _ _ hr hblk
  have hlb:=hst.heap.lt r _ _ hr hblk
  let E1:Env:={ E with S:=fun b i=>E.S b i∨(b=b0∧i<xs.length * z) }
  have hl:Le E E1:=by
   refine ⟨rfl,rfl,rfl,Nat.le_refl _,Nat.le_refl _,fun _ _=>rfl,fun _ _=>⟨Nat.le_refl _,fun _=>rfl⟩,fun _ _ hs=>.inl hs,fun _ _ _=>rfl,fun _ _ _=>rfl,fun b i hs=>?_,fun _ hp=>.inl hp,fun _ _ _ _ _ hh=>hh⟩
   rcases hs with hs | ⟨rfl,_⟩
   ·exact .inl hs
   ·exact .inr (.inr hpv)
  refine ⟨E1,rfl,hl,⟨hst.size,hst.defers,?_,fun t=>(hst.slot t).le hl⟩,h⟩
  refine hst.heap.turn (r0:=r) (o0:=.grow q z e xs) hl (by simp [E1,hst.heap.N]) (fun r' hr'=>?_) (fun o' ho'=>?_) (fun _ _ _=>rfl) (fun r' o' b hr' ho' hb=>⟨rfl,fun i hs=>?_⟩) (fun _ hb=>hb) (fun b i hs=>?_) ⟨h1,h2,h3,.inr ⟨b0,cap,arr,h5,h6,by omega,h8,h9,h10,fun i j x c hi hj=>?_,fun i hi hS=>?_⟩⟩ (fun b hb=>⟨?_,?_,?_⟩)
  ·rw [List.getElem?_set_ne (fun e=>hr' e.symm)]
  ·rw [List.getElem?_set_self hrl] at ho'
   exact (Option.some.inj ho').symm
  ·rcases hs with hs | ⟨rfl,_⟩
   ·exact hs
   ·exact absurd (hst.heap.apart r' r o' _ _ ho' hr hb hblk) hr'
  ·rcases hs with hs | ⟨rfl,_⟩
   ·exact hst.heap.Slt b i hs
   ·exact hlb
  ·obtain ⟨v,k2,k3,k4⟩:=h11 i j x c hi hj
   have hil:i<xs.length:=(List.getElem?_eq_some_iff.1 hi).1
   have hjl:j<z:=by rw [←h2 x (List.mem_of_getElem? hi)];exact (List.getElem?_eq_some_iff.1 hj).1
   have hm:(i+1) * z≤xs.length * z:=Nat.mul_le_mul_right z (by omega)
   rw [Nat.add_mul] at hm
   exact ⟨.inr ⟨rfl,by omega⟩,v,k2,k3,k4.le hl⟩
  ·rcases hS with hS | ⟨_,hlt⟩
   ·exact h12 i hS
   ·omega
  ·have hb':(O.buf q z e xs).block E r b:=hb
   exact hst.heap.pv r _ _ hr hb'
  ·have hb':(O.buf q z e xs).block E r b:=hb
   exact hst.heap.lt r _ _ hr hb'
  ·have hb':(O.buf q z e xs).block E r b:=hb
   exact fun r' o' hr' ho' hb2=>hr' (hst.heap.apart r' r o' _ b ho' hr hb2 hb')
end Go.Proofs.YtockpdkdnlkkfaaGreat
namespace Go.Proofs.YtockpdkdnlkkfaaGreat
open Go.Abs
set_option maxRecDepth 100000
set_option maxHeartbeats 8000000
theorem stgD_s (rs:List RV) (m:Nat):stgD rs (m+1)=stgD rs m++[[.sl ((stg rs m).map fcE)]]:=by simp [stgD,List.range_succ]
end Go.Proofs.YtockpdkdnlkkfaaGreat
namespace Go.Proofs.YtockpdkdnlkkfaaGreat
open Go.Abs
set_option maxRecDepth 100000
set_option maxHeartbeats 8000000
@[go_sem] theorem stgD_len (rs:List RV) (m:Nat):(stgD rs m).length=m:=by simp [stgD]
end Go.Proofs.YtockpdkdnlkkfaaGreat
namespace Go.Proofs.YtockpdkdnlkkfaaGreat
open Go.Abs
set_option maxRecDepth 100000
set_option maxHeartbeats 8000000
theorem stgD_at (rs:List RV) {i m:Nat} (h:i<m):(stgD rs m)[i]? = some [.sl ((stg rs i).map fcE)]:=by
 unfold stgD
 rw [List.getElem?_map,List.getElem?_range h];rfl
end Go.Proofs.YtockpdkdnlkkfaaGreat
namespace Go.Proofs.YtockpdkdnlkkfaaGreat
open Go.Abs
set_option maxRecDepth 100000
set_option maxHeartbeats 8000000
def posR (rs:List RV):Prop:=∀r,r∈rs→r.neg=[]
end Go.Proofs.YtockpdkdnlkkfaaGreat
namespace Go.Proofs.YtockpdkdnlkkfaaGreat
open Go.Abs
set_option maxRecDepth 100000
set_option maxHeartbeats 8000000
theorem posR_next {rs:List RV} (h:posR rs) (F:List FcV):nextF rs F F=nextF rs F []:=by
 unfold nextF
 congr 2
 refine List.filter_congr fun r hr=>?_
 unfold RV.fires
 rw [h r hr];rfl
end Go.Proofs.YtockpdkdnlkkfaaGreat
namespace Go.Proofs.YtockpdkdnlkkfaaGreat
open Go.Abs
set_option maxRecDepth 100000
set_option maxHeartbeats 8000000
theorem stages_fn (rs:List RV) (hr:rs.length≤2000000) (hp:posR rs):Gives Tryz.prog 49 [.sl (rs.map rvE)] (.d (.sl (stgD rs (top rs+1)))):=by
 have hmx:maxLen=9223372036854775807:=rfl
 obtain ⟨t1,t2,t3⟩:=top_spec rs
 obtain ⟨RES,hRES⟩:∃RES,stgD rs (top rs+1)=RES:=⟨_,rfl⟩
 rw [hRES]
 refine ACalls.enter (fn:=Tryz.f49) Tryz.func49 rfl (by show 1≤_;decide) ?_
 refine run_sound Tryz.func49 mixed 3 _ _ (by kernel_rfl) ?_
 simp only [go_sem,seval,run.eq_1]
 refine AWregL0 ?_
 simp only [go_sem,seval]
 repeat' (first
  | ((refine all_intro (fun Bz=>?_))<;>(try simp only [go_sem,seval]))
  | fail)
 refine AW.treeB 0 rfl (by simp [D.flat]) ?_
 refine AWbufG 0 rfl ?_
 refine run_sound Tryz.func49 mixed 200 _ _ (by kernel_rfl) ?_
 simp only [go_sem,seval]
 refine AW.lp [0] (fun k:Nat=>[(3,.own 0 k)]) (fun _ k=>[.grow k 1 37 (stgD rs (k+1))]) (fun k=>k≤top rs) (fun k=>top rs - k) 0 (Nat.zero_le _) (by refine ⟨by simp [mkS,stgD_1],by simp [mkS,stgD_1],by simp only [mkS,List.all_cons,List.all_nil,O.refsLt,C.refsLt,C.refsLt1,all_dmap];first | done | rfl | (simp;done),?_⟩;simp [mkS,Abs.get,C.refsLtT,C.refsLt,C.refsLt1]) ?_
 intro k hk hnk
 have w1:IntKind.i64.wrap ((k:Int)+1 - 1)=(k:Int):=by rw [wrap_ok (by omega) (by omega)];omega
 have n1:(k:Int)<(k:Int)+1:=by omega
 have hat:=stgD_at rs (i:=k) (m:=k+1) (by omega)
 have hl1:=stg_len rs k
 have hl2:=stg_len rs (k+1)
 have hc:=consequences_fn rs (stg rs k) (stg_asc rs k) (by omega) hr
 rw [posR_next hp,show nextF rs (stg rs k) []=stg rs (k+1) from rfl] at hc
 have hsf:=sameFacts_fn (stg rs (k+1)) (stg rs k) (by omega) (by omega)
 by_cases hs:stg rs (k+1)=stg rs k
 ·rw [decide_eq_true hs] at hsf
  have hkt:k=top rs:=top_eq hs (fun j hj=>t3 j (by omega))
  rw [←hkt] at hRES
  rw [←hRES]
  refine run_sound Tryz.func49 mixed 200 _ _ (by kernel_rfl) ?_
  simp only [go_sem,seval,w1,n1,idx_of hat]
  repeat' (first
   | ((first
    | (refine hc.calls rfl ?_)
    | (refine hsf.calls rfl ?_))<;>(try simp only [go_sem,seval,w1,n1,idx_of hat]))
   | fail)
 ·rw [decide_eq_false hs] at hsf
  have hkt:k<top rs:=by
   rcases Nat.lt_or_ge k (top rs) with h | h
   ·exact h
   ·rw [show k=top rs by omega] at hs;exact absurd t2 hs
  refine run_sound Tryz.func49 mixed 200 _ _ (by kernel_rfl) ?_
  simp only [go_sem,seval,w1,n1,idx_of hat]
  repeat' (first
   | ((first
    | (refine hc.calls rfl ?_)
    | (refine hsf.calls rfl ?_)
    | (refine ⟨sd,?_⟩))<;>(try simp only [go_sem,seval,w1,n1,idx_of hat]))
   | fail)
  refine hnk (k+1) _ (by omega) (by omega) (by refine ⟨by simp [mkS,stgD_s],by simp [mkS,stgD_s],by simp only [mkS,List.all_cons,List.all_nil,O.refsLt,C.refsLt,C.refsLt1,all_dmap];first | done | rfl | (simp;done),?_⟩;simp [mkS,Abs.get,C.refsLtT,C.refsLt,C.refsLt1])
end Go.Proofs.YtockpdkdnlkkfaaGreat
namespace Go.Proofs.YtockpdkdnlkkfaaGreat
open Go.Abs
set_option maxRecDepth 100000
set_option maxHeartbeats 8000000
set_option linter.unusedSimpArgs false
set_option linter.unusedVariables false
theorem okL_at {p:Pg}:∀{l:List Rl},p.okL l=true→∀j x,l[j]? = some x→p.relOk (p.rels.length - (l.length - j)) x=true
 | [],_,j,x,h=>by simp at h
 | r :: q,ho,0,x,h=>by
  simp only [Pg.okL,Bool.and_eq_true] at ho
  simp at h;subst h
  exact ho.1
 | r :: q,ho,j+1,x,h=>by
  simp only [Pg.okL,Bool.and_eq_true] at ho
  have:=okL_at ho.2 j x (by simpa using h)
  simpa using this
theorem find_self {p:Pg} (hp:pgOk p=true) {i:Nat} {x:Rl} (h:p.rels[i]? = some x):p.find x.name=(i:Int):=by
 unfold pgOk at hp
 rw [Bool.and_eq_true] at hp
 have h1:=okL_at hp.2 i x h
 have hi:=(List.getElem?_eq_some_iff.1 h).1
 rw [show p.rels.length - (p.rels.length - i)=i by omega] at h1
 unfold Pg.relOk at h1
 simp only [Bool.and_eq_true,decide_eq_true_eq] at h1
 exact h1.1.1.1.1.1.1.1
theorem toV_args {f:Fc} (h:f.args.all tmOk=true):f.enc=fcE (Fc.toV f):=by
 rw [Fc.enc_eq,fcE_eq]
 unfold Fc.toV
 dsimp only
 rw [List.map_map,List.map_congr_left (g:=V.enc∘Tm.V) (fun t ht=>Tm.enc_V (List.all_eq_true.1 h t ht))]
theorem stg_fits {p:Pg} {u:List V} {rs:List RV} (hp:pgOk p=true) (hu:Uni u) (hg:p.gr u=some rs) {f:Fc} (hf:f.args.all tmOk=true) {k:Nat} (h:Fc.toV f∈stg rs k):p.factFits f=true:=by
 cases k with
 | zero=>simp [stg] at h
 | succ k =>
  obtain ⟨r,h1,_,h3⟩:=nextF_mem.1 h
  obtain ⟨rfl,_⟩:=gr_mem hg
  obtain ⟨x,hx,c,_,j,w,_,rfl⟩:=gnd_mem _ h1
  obtain ⟨z1,z2,z3,z4⟩:=Pg.dims hp hx
  obtain ⟨i,hi⟩:=List.getElem?_of_mem hx
  have hfs:=find_self hp hi
  have hvl:=gVals_len u (x.arity+x.locals).toNat w
  have hvm:=gVals_mem hu.pos (x.arity+x.locals).toNat w
  have e1:x.name=f.rel:=congrArg Prod.fst h3
  have e2:(gVals u (x.arity+x.locals).toNat w).take x.arity.toNat=f.args.map Tm.V:=congrArg Prod.snd h3
  have e3:p.find f.rel=(i:Int):=by rw [←e1];exact hfs
  rw [Pg.factFits_at (r:=x) (by rw [e3];omega) (by rw [e3];simpa using hi),Bool.and_eq_true,decide_eq_true_eq,List.all_eq_true]
  refine ⟨?_,fun t ht=>?_⟩
  ·have:=congrArg List.length e2
   simp only [List.length_take,List.length_map,hvl] at this
   omega
  ·have hok:=List.all_eq_true.1 hf t ht
   have hm:t.V∈(gVals u (x.arity+x.locals).toNat w).take x.arity.toNat:=by rw [e2];exact List.mem_map.2 ⟨t,ht,rfl⟩
   have hv:=hu.gr _ (hvm _ (List.mem_of_mem_take hm))
   unfold Tm.ground
   rw [hok,Tm.vars_V hok,hv];rfl
theorem pos_gnd {p:Pg} {u:List V} {rs:List RV} (h:p.all false=true) (hg:p.gr u=some rs):posR rs:=fun r hr=>by
 obtain ⟨rfl,_⟩:=gr_mem hg
 obtain ⟨x,hx,c,hc,j,w,_,rfl⟩:=gnd_mem _ hr
 unfold Pg.all at h
 rw [Bool.and_eq_true] at h
 have ho:=List.all_eq_true.1 h.2 x hx
 unfold Gl.only at ho
 show clsNeg _ c=[]
 unfold clsNeg
 have:c.filter (fun g=>decide (g.kind=10))=[]:=List.filter_eq_nil_iff.2 fun g hgc=>by
  have h1:=List.all_eq_true.1 ho g (clsS_sub hc hgc)
  unfold Gl.onlyK at h1
  simp only [Bool.and_eq_true,decide_eq_true_eq] at h1
  simpa using h1.1
 rw [this];rfl
theorem hgt_at {rs:List RV} {f:FcV} {i:Nat} (h1:i≤top rs) (h2:f∈stg rs i) (h3:∀j,j<i→f∉stg rs j):hgt rs f=(i:Int):=by
 unfold hgt
 rw [if_pos (stg_le rs h1 f h2)]
 obtain ⟨k1,k2,k3⟩:=srch_spec (p:=fun k=>decide (f∈stg rs k)) (n:=top rs+1)
 generalize srch (fun k=>decide (f∈stg rs k)) (top rs+1)=k at k1 k2 k3
 rcases Nat.lt_trichotomy k i with e | e | e
 ·exact absurd (of_decide_eq_true (k3 (by omega))) (h3 k e)
 ·rw [e]
 ·have:=k2 i e;simp [h2] at this
theorem hgt_no {rs:List RV} {f:FcV} (h:f∉stg rs (top rs)):hgt rs f=-1:=by unfold hgt;rw [if_neg h]
def Pg.hgtF (p:Pg) (u:List Tm) (f:Fc):Int:=
 if p.all false=true∧uniOk u=true∧f.args.all tmOk=true then (match p.gr (u.map Tm.V) with | some rs=>hgt rs (Fc.toV f) | none=>-1) else -1
def posO (p:Pg) (u:List Tm):Option (List RV):=if p.all false=true∧uniOk u=true then p.gr (u.map Tm.V) else none
theorem positiveRules_fn (p:Pg) (u:List Tm) (hw:wtL p.enc≤1048576) (hwu:∀t,t∈u→wtL t.enc≤1048576) (hlu:u.length≤9000000):Gives Tryz.prog 46 [.agg p.enc,.sl (u.map Tm.enc)] (grC (posO p u)):=by
 have ha:=iIsPositive_fn p hw
 have hb:=iUniverseOk_fn u hwu hlu
 unfold posO
 by_cases h1:p.all false=true
 ·by_cases h2:uniOk u=true
  ·rw [h1] at ha
   rw [h2] at hb
   rw [if_pos ⟨h1,h2⟩]
   obtain ⟨hu,he⟩:=Uni.of h2
   have hp:pgOk p=true:=by unfold Pg.all at h1;rw [Bool.and_eq_true] at h1;exact h1.1
   have hee:u.map Tm.enc=(u.map Tm.V).map V.enc:=by rw [←enc_tms,←he]
   have hgr:=groundRules_fn p (u.map Tm.V) hp hw hu
   rw [hee] at hb ⊢
   generalize p.gr (u.map Tm.V)=O at *
   cases O<;>· (
    first | rw [grC_none] at hgr ⊢ | rw [grC_some] at hgr ⊢
    refine ACalls.enter (fn:=Tryz.f46) Tryz.func46 rfl (by show 2≤_;decide) ?_
    refine run_sound Tryz.func46 mixed 200 _ _ (by kernel_rfl) ?_
    simp only [go_sem,seval]
    repeat' (first
     | ((first
      | (refine ha.calls rfl ?_)
      | (refine hb.calls rfl ?_)
      | (refine hgr.calls rfl ?_))<;>(try simp only [go_sem,seval]))
     | fail)
    skip)
  ·rw [if_neg (fun h=>h2 h.2),grC_none]
   simp only [Bool.not_eq_true] at h2
   rw [h1] at ha
   rw [h2] at hb
   refine ACalls.enter (fn:=Tryz.f46) Tryz.func46 rfl (by show 2≤_;decide) ?_
   refine run_sound Tryz.func46 mixed 200 _ _ (by kernel_rfl) ?_
   simp only [go_sem,seval]
   repeat' (first
    | ((first
     | (refine ha.calls rfl ?_)
     | (refine hb.calls rfl ?_))<;>(try simp only [go_sem,seval]))
    | fail)
 ·rw [if_neg (fun h=>h1 h.1),grC_none]
  simp only [Bool.not_eq_true] at h1
  rw [h1] at ha
  refine ACalls.enter (fn:=Tryz.f46) Tryz.func46 rfl (by show 2≤_;decide) ?_
  refine run_sound Tryz.func46 mixed 200 _ _ (by kernel_rfl) ?_
  simp only [go_sem,seval]
  repeat' (first
   | ((refine ha.calls rfl ?_)<;>(try simp only [go_sem,seval]))
   | fail)
theorem heightIn_fn (rs:List RV) (f:FcV) (hr:rs.length≤2000000):Gives Tryz.prog 48 [.sl (stgD rs (top rs+1)),.agg (fcE f)] (.d (.int .i64 (hgt rs f))):=by
 obtain ⟨K,hK⟩:∃K,hgt rs f=K:=⟨_,rfl⟩
 rw [hK,fcE_eq]
 obtain ⟨t1,_,_⟩:=top_spec rs
 refine ACalls.enter (fn:=Tryz.f48) Tryz.func48 rfl (by show 2≤_;decide) ?_
 refine run_sound Tryz.func48 mixed 200 _ _ (by kernel_rfl) ?_
 simp only [go_sem,seval]
 refine AW.lp [3,7,8] (fun i:Nat=>[(9,.d (.int .i64 (i:Int)))]) (fun H _=>H) (fun i=>i≤top rs+1∧∀j,j<i→f∉stg rs j) (fun i=>top rs+1 - i) 0 ⟨Nat.zero_le _,fun j hj=>by omega⟩ (by refine ⟨by simp [mkS],by simp [mkS],by simp only [mkS,List.all_cons,List.all_nil,O.refsLt,C.refsLt,C.refsLt1,all_dmap];first | done | rfl | (simp;done),?_⟩;simp [mkS,Abs.get,C.refsLtT,C.refsLt,C.refsLt1]) ?_
 intro i hi hni
 obtain ⟨i1,i2⟩:=hi
 by_cases hit:i<top rs+1
 ·have n1:(i:Int)<(top rs:Int)+1:=by omega
  have hat:=stgD_at rs hit
  have hsl:=stg_len rs i
  have w1:IntKind.i64.wrap ((i:Int)+1)=(i:Int)+1:=wrap_ok (by omega) (by omega)
  by_cases hf:f∈stg rs i
  ·rw [hgt_at (by omega) hf i2] at hK
   subst hK
   have he:=hasFact_fn (stg rs i) f (by omega) (stg_asc rs i)
   rw [decide_eq_true hf,fcE_eq] at he
   refine run_sound Tryz.func48 mixed 200 _ _ (by kernel_rfl) ?_
   simp only [go_sem,seval,n1,idx_of hat]
   repeat' (first
    | ((refine he.calls rfl ?_)<;>(try simp only [go_sem,seval,n1,idx_of hat]))
    | fail)
  ·have he:=hasFact_fn (stg rs i) f (by omega) (stg_asc rs i)
   rw [decide_eq_false hf,fcE_eq] at he
   refine run_sound Tryz.func48 mixed 200 _ _ (by kernel_rfl) ?_
   simp only [go_sem,seval,n1,idx_of hat]
   repeat' (first
    | ((refine he.calls rfl ?_)<;>(try simp only [go_sem,seval,n1,idx_of hat,w1]))
    | fail)
   refine hni (i+1) _ ⟨by omega,fun j hj=>?_⟩ (by omega) (by refine ⟨by simp [mkS],by simp [mkS],by simp only [mkS,List.all_cons,List.all_nil,O.refsLt,C.refsLt,C.refsLt1,all_dmap];first | done | rfl | (simp;done),?_⟩;simp [mkS,Abs.get,C.refsLtT,C.refsLt,C.refsLt1])
   rcases Nat.lt_or_ge j i with e | e
   ·exact i2 j e
   ·rw [show j=i by omega];exact hf
 ·have n1:¬(i:Int)<(top rs:Int)+1:=by omega
  rw [hgt_no (i2 _ (by omega))] at hK
  subst hK
  refine run_sound Tryz.func48 mixed 200 _ _ (by kernel_rfl) ?_
  simp only [go_sem,seval,n1]
theorem l19Height_fn (rs:List RV) (f:FcV) (hr:rs.length≤2000000):Gives Tryz.prog 45 [.sl (stgD rs (top rs+1)),.agg (fcE f)] (.d (.int .i64 (hgt rs f))):=by
 obtain ⟨K,hK⟩:∃K,hgt rs f=K:=⟨_,rfl⟩
 rw [hK,fcE_eq]
 obtain ⟨t1,_,_⟩:=top_spec rs
 refine ACalls.enter (fn:=Tryz.f45) Tryz.func45 rfl (by show 2≤_;decide) ?_
 refine run_sound Tryz.func45 mixed 200 _ _ (by kernel_rfl) ?_
 simp only [go_sem,seval]
 refine AW.lp [3,7,8] (fun i:Nat=>[(9,.d (.int .i64 (i:Int)))]) (fun H _=>H) (fun i=>i≤top rs+1∧∀j,j<i→f∉stg rs j) (fun i=>top rs+1 - i) 0 ⟨Nat.zero_le _,fun j hj=>by omega⟩ (by refine ⟨by simp [mkS],by simp [mkS],by simp only [mkS,List.all_cons,List.all_nil,O.refsLt,C.refsLt,C.refsLt1,all_dmap];first | done | rfl | (simp;done),?_⟩;simp [mkS,Abs.get,C.refsLtT,C.refsLt,C.refsLt1]) ?_
 intro i hi hni
 obtain ⟨i1,i2⟩:=hi
 by_cases hit:i<top rs+1
 ·have n1:(i:Int)<(top rs:Int)+1:=by omega
  have hat:=stgD_at rs hit
  have hsl:=stg_len rs i
  have w1:IntKind.i64.wrap ((i:Int)+1)=(i:Int)+1:=wrap_ok (by omega) (by omega)
  by_cases hf:f∈stg rs i
  ·rw [hgt_at (by omega) hf i2] at hK
   subst hK
   have he:=l18Has_fn (stg rs i) f (by omega)
   rw [decide_eq_true hf,fcE_eq] at he
   refine run_sound Tryz.func45 mixed 200 _ _ (by kernel_rfl) ?_
   simp only [go_sem,seval,n1,idx_of hat]
   repeat' (first
    | ((refine he.calls rfl ?_)<;>(try simp only [go_sem,seval,n1,idx_of hat]))
    | fail)
  ·have he:=l18Has_fn (stg rs i) f (by omega)
   rw [decide_eq_false hf,fcE_eq] at he
   refine run_sound Tryz.func45 mixed 200 _ _ (by kernel_rfl) ?_
   simp only [go_sem,seval,n1,idx_of hat]
   repeat' (first
    | ((refine he.calls rfl ?_)<;>(try simp only [go_sem,seval,n1,idx_of hat,w1]))
    | fail)
   refine hni (i+1) _ ⟨by omega,fun j hj=>?_⟩ (by omega) (by refine ⟨by simp [mkS],by simp [mkS],by simp only [mkS,List.all_cons,List.all_nil,O.refsLt,C.refsLt,C.refsLt1,all_dmap];first | done | rfl | (simp;done),?_⟩;simp [mkS,Abs.get,C.refsLtT,C.refsLt,C.refsLt1])
   rcases Nat.lt_or_ge j i with e | e
   ·exact i2 j e
   ·rw [show j=i by omega];exact hf
 ·have n1:¬(i:Int)<(top rs:Int)+1:=by omega
  rw [hgt_no (i2 _ (by omega))] at hK
  subst hK
  refine run_sound Tryz.func45 mixed 200 _ _ (by kernel_rfl) ?_
  simp only [go_sem,seval,n1]
end Go.Proofs.YtockpdkdnlkkfaaGreat

namespace Go.Proofs.YtockpdkdnlkkfaaGreat
open Go.Abs
set_option maxRecDepth 100000
set_option maxHeartbeats 8000000
set_option linter.unusedSimpArgs false
set_option linter.unusedVariables false
theorem iFactHeight_fn (p:Pg) (u:List Tm) (f:Fc) (hw:wtL p.enc≤1048576) (hwu:wtR (u.map Tm.enc)≤1048576) (hwf:wtL f.enc≤1048576):Gives Tryz.prog 22 [.agg p.enc,.sl (u.map Tm.enc),.agg f.enc] (.d (.int .i64 (Pg.hgtF p u f))):=by
 have hpr:=positiveRules_fn p u hw (mem_wtR hwu).1 (mem_wtR hwu).2
 have hfa:wtR (f.args.map Tm.enc)≤1048576:=by rw [Fc.enc_eq] at hwf;simp only [wtL,D.wt] at hwf;omega
 have hto:=itermsOk_fn f.args (fun t ht=>by have:=wtR_mem (List.mem_map.2 ⟨t,ht,rfl⟩:t.enc∈f.args.map Tm.enc);omega)
 obtain ⟨K,hK⟩:∃K,Pg.hgtF p u f=K:=⟨_,rfl⟩
 rw [hK]
 unfold Pg.hgtF at hK
 unfold posO at hpr
 by_cases h12:p.all false=true∧uniOk u=true
 ·rw [if_pos h12] at hpr
  obtain ⟨hu,he⟩:=Uni.of h12.2
  cases hg:p.gr (u.map Tm.V) with
  | none =>
   rw [hg] at hK
   have hK':K=-1:=by rw [←hK];split<;>rfl
   rw [hg,grC_none] at hpr
   rw [hK',Fc.enc_eq]
   refine ACalls.enter (fn:=Tryz.f22) Tryz.func22 rfl (by show 3≤_;decide) ?_
   refine run_sound Tryz.func22 mixed 200 _ _ (by kernel_rfl) ?_
   simp only [go_sem,seval]
   repeat' (first
    | ((refine hpr.calls rfl ?_)<;>(try simp only [go_sem,seval]))
    | fail)
  | some rs =>
   rw [hg,grC_some] at hpr
   by_cases hq:f.args.all tmOk=true
   ·rw [if_pos ⟨h12.1,h12.2,hq⟩,hg] at hK
    dsimp only at hK
    rw [hq] at hto
    obtain ⟨_,hrl⟩:=gr_mem hg
    have hst:=stages_fn rs (by omega) (pos_gnd h12.1 hg)
    have hht:=heightIn_fn rs (Fc.toV f) (by omega)
    rw [hK,←toV_args hq] at hht
    rw [Fc.enc_eq] at hht ⊢
    generalize stgD rs (top rs+1)=SD at *
    refine ACalls.enter (fn:=Tryz.f22) Tryz.func22 rfl (by show 3≤_;decide) ?_
    refine run_sound Tryz.func22 mixed 200 _ _ (by kernel_rfl) ?_
    simp only [go_sem,seval]
    repeat' (first
     | ((first
      | (refine hpr.calls rfl ?_)
      | (refine hto.calls rfl ?_)
      | (refine hst.callQ rfl ?_)
      | (refine hht.callQ rfl ?_))<;>(try simp only [go_sem,seval]))
     | fail)
   ·rw [if_neg (fun h=>hq h.2.2)] at hK
    simp only [Bool.not_eq_true] at hq
    rw [hq] at hto
    rw [←hK,Fc.enc_eq]
    refine ACalls.enter (fn:=Tryz.f22) Tryz.func22 rfl (by show 3≤_;decide) ?_
    refine run_sound Tryz.func22 mixed 200 _ _ (by kernel_rfl) ?_
    simp only [go_sem,seval]
    repeat' (first
     | ((first
      | (refine hpr.calls rfl ?_)
      | (refine hto.calls rfl ?_))<;>(try simp only [go_sem,seval]))
     | fail)
 ·rw [if_neg h12,grC_none] at hpr
  rw [if_neg (fun h=>h12 ⟨h.1,h.2.1⟩)] at hK
  rw [←hK,Fc.enc_eq]
  refine ACalls.enter (fn:=Tryz.f22) Tryz.func22 rfl (by show 3≤_;decide) ?_
  refine run_sound Tryz.func22 mixed 200 _ _ (by kernel_rfl) ?_
  simp only [go_sem,seval]
  repeat' (first
   | ((refine hpr.calls rfl ?_)<;>(try simp only [go_sem,seval]))
   | fail)
theorem l19Stages_fn (rs:List RV) (hr:rs.length≤1000000):Gives Tryz.prog 74 [.sl (rs.map rvE)] (.d (.sl (stgD rs (top rs+1)))):=by
 have hmx:maxLen=9223372036854775807:=rfl
 obtain ⟨t1,t2,t3⟩:=top_spec rs
 obtain ⟨RES,hRES⟩:∃RES,stgD rs (top rs+1)=RES:=⟨_,rfl⟩
 rw [hRES]
 refine ACalls.enter (fn:=Tryz.f74) Tryz.func74 rfl (by show 1≤_;decide) ?_
 refine run_sound Tryz.func74 mixed 3 _ _ (by kernel_rfl) ?_
 simp only [go_sem,seval,run.eq_1]
 refine AWregL0 ?_
 simp only [go_sem,seval]
 repeat' (first
  | ((refine all_intro (fun Bz=>?_))<;>(try simp only [go_sem,seval]))
  | fail)
 refine AW.treeB 0 rfl (by simp [D.flat]) ?_
 refine AWbufG 0 rfl ?_
 refine run_sound Tryz.func74 mixed 200 _ _ (by kernel_rfl) ?_
 simp only [go_sem,seval]
 refine AW.lp [0] (fun k:Nat=>[(3,.own 0 k)]) (fun _ k=>[.grow k 1 37 (stgD rs (k+1))]) (fun k=>k≤top rs) (fun k=>top rs - k) 0 (Nat.zero_le _) (by refine ⟨by simp [mkS,stgD_1],by simp [mkS,stgD_1],by simp only [mkS,List.all_cons,List.all_nil,O.refsLt,C.refsLt,C.refsLt1,all_dmap];first | done | rfl | (simp;done),?_⟩;simp [mkS,Abs.get,C.refsLtT,C.refsLt,C.refsLt1]) ?_
 intro k hk hnk
 have w1:IntKind.i64.wrap ((k:Int)+1 - 1)=(k:Int):=by rw [wrap_ok (by omega) (by omega)];omega
 have n1:(k:Int)<(k:Int)+1:=by omega
 have hat:=stgD_at rs (i:=k) (m:=k+1) (by omega)
 have hl1:=stg_len rs k
 have hl2:=stg_len rs (k+1)
 have hc:Gives Tryz.prog 53 [.sl (rs.map rvE),.sl ((stg rs k).map fcE),.sl []] (.d (.sl ((stg rs (k+1)).map fcE))):=l19Next_fn rs (stg rs k) [] (by omega) (by simp) hr
 have hmap:∀x:List FcV,(x.map fcE).length=x.length:=fun x=>List.length_map _
 have heq:=stg_eq_len (rs:=rs) (k:=k)
 by_cases hs:stg rs (k+1)=stg rs k
 ·have hkt:k=top rs:=top_eq hs (fun j hj=>t3 j (by omega))
  have n2:((stg rs (k+1)).length:Int)=((stg rs k).length:Int):=by rw [heq.2 hs]
  rw [←hkt] at hRES
  rw [←hRES]
  refine run_sound Tryz.func74 mixed 200 _ _ (by kernel_rfl) ?_
  simp only [go_sem,seval,w1,n1,idx_of hat,hmap]
  repeat' (first
   | ((refine hc.calls rfl ?_)<;>(try simp only [go_sem,seval,w1,n1,idx_of hat,n2,hmap]))
   | fail)
 ·have n2:¬((stg rs (k+1)).length:Int)=((stg rs k).length:Int):=fun h=>hs (heq.1 (by omega))
  have hkt:k<top rs:=by
   rcases Nat.lt_or_ge k (top rs) with h | h
   ·exact h
   ·rw [show k=top rs by omega] at hs;exact absurd t2 hs
  refine run_sound Tryz.func74 mixed 200 _ _ (by kernel_rfl) ?_
  simp only [go_sem,seval,w1,n1,idx_of hat,hmap]
  repeat' (first
   | ((first
    | (refine hc.calls rfl ?_)
    | (refine ⟨sd,?_⟩))<;>(try simp only [go_sem,seval,w1,n1,idx_of hat,n2,hmap]))
   | fail)
  all_goals first | (exact absurd (by assumption) n2) | skip
  refine hnk (k+1) _ (by omega) (by omega) (by refine ⟨by simp [mkS,stgD_s],by simp [mkS,stgD_s],by simp only [mkS,List.all_cons,List.all_nil,O.refsLt,C.refsLt,C.refsLt1,all_dmap];first | done | rfl | (simp;done),?_⟩;simp [mkS,Abs.get,C.refsLtT,C.refsLt,C.refsLt1])
end Go.Proofs.YtockpdkdnlkkfaaGreat

namespace Go.Proofs.YtockpdkdnlkkfaaGreat
open Go.Abs
set_option maxRecDepth 100000
set_option maxHeartbeats 8000000
set_option linter.unusedSimpArgs false
set_option linter.unusedVariables false
def allC (o:Option (List RV)):C:=match o with | some rs=>.tup [.d (.sl (rs.map rvE)),.d (.sl (stgD rs (top rs+1))),.d (.bool true)] | none=>.tup [.d (.sl []),.d (.sl []),.d (.bool false)]
theorem allC_some (rs:List RV):allC (some rs)=.tup [.d (.sl (rs.map rvE)),.d (.sl (stgD rs (top rs+1))),.d (.bool true)]:=rfl
theorem allC_none:allC none=.tup [.d (.sl []),.d (.sl []),.d (.bool false)]:=rfl
theorem all_ok {p:Pg} (h:p.all false=true):pgOk p=true:=by unfold Pg.all at h;rw [Bool.and_eq_true] at h;exact h.1
theorem l19All_fn (p:Pg) (u:List Tm) (hw:wtL p.enc≤1048576) (hwu:∀t,t∈u→wtL t.enc≤1048576) (hlu:u.length≤9000000):Gives Tryz.prog 43 [.agg p.enc,.sl (u.map Tm.enc)] (allC (posO p u)):=by
 have ha:=sIsPositive_fn p hw
 have hgr:=sGroundRules_fn p u hw hwu hlu
 have hpo:posO p u=if p.all false=true then Pg.grO p u else none:=by
  unfold posO Pg.grO
  by_cases h1:p.all false=true
  ·by_cases h2:uniOk u=true
   ·rw [if_pos ⟨h1,h2⟩,if_pos h1,if_pos ⟨all_ok h1,h2⟩]
   ·rw [if_neg (fun h=>h2 h.2),if_pos h1,if_neg (fun h=>h2 h.2)]
  ·rw [if_neg (fun h=>h1 h.1),if_neg h1]
 rw [hpo]
 by_cases h1:p.all false=true
 ·rw [if_pos h1]
  rw [h1] at ha
  have hrl:∀rs,Pg.grO p u=some rs→rs.length≤2000:=fun rs h=>by
   unfold Pg.grO at h
   split at h
   ·exact (gr_mem h).2
   ·cases h
  generalize Pg.grO p u=O at *
  cases O with
  | none =>
   rw [grC_none] at hgr
   rw [allC_none]
   refine ACalls.enter (fn:=Tryz.f43) Tryz.func43 rfl (by show 2≤_;decide) ?_
   refine run_sound Tryz.func43 mixed 200 _ _ (by kernel_rfl) ?_
   simp only [go_sem,seval]
   repeat' (first
    | ((first
     | (refine ha.calls rfl ?_)
     | (refine hgr.calls rfl ?_))<;>(try simp only [go_sem,seval]))
    | fail)
  | some rs =>
   have hst:=l19Stages_fn rs (by have:=hrl rs rfl;omega)
   rw [grC_some] at hgr
   rw [allC_some]
   generalize stgD rs (top rs+1)=SD at *
   refine ACalls.enter (fn:=Tryz.f43) Tryz.func43 rfl (by show 2≤_;decide) ?_
   refine run_sound Tryz.func43 mixed 200 _ _ (by kernel_rfl) ?_
   simp only [go_sem,seval]
   repeat' (first
    | ((first
     | (refine ha.calls rfl ?_)
     | (refine hgr.calls rfl ?_)
     | (refine hst.calls rfl ?_))<;>(try simp only [go_sem,seval]))
    | fail)
 ·rw [if_neg h1,allC_none]
  simp only [Bool.not_eq_true] at h1
  rw [h1] at ha
  refine ACalls.enter (fn:=Tryz.f43) Tryz.func43 rfl (by show 2≤_;decide) ?_
  refine run_sound Tryz.func43 mixed 200 _ _ (by kernel_rfl) ?_
  simp only [go_sem,seval]
  repeat' (first
   | ((refine ha.calls rfl ?_)<;>(try simp only [go_sem,seval]))
   | fail)
theorem fits_ok {p:Pg} {f:Fc} (h:p.factFits f=true):f.args.all tmOk=true:=by
 unfold Pg.factFits at h
 split at h
 ·simp only [Bool.and_eq_true] at h
  exact List.all_eq_true.2 fun t ht=>ground_ok (List.all_eq_true.1 h.2 t ht)
 ·cases h
theorem sFactHeight_fn (p:Pg) (u:List Tm) (f:Fc) (hw:wtL p.enc≤1048576) (hwu:wtR (u.map Tm.enc)≤1048576) (hwf:wtL f.enc≤1048576):Gives Tryz.prog 20 [.agg p.enc,.sl (u.map Tm.enc),.agg f.enc] (.d (.int .i64 (Pg.hgtF p u f))):=by
 have hal:=l19All_fn p u hw (mem_wtR hwu).1 (mem_wtR hwu).2
 have hfo:=sFactOk_fn p f hw hwf
 obtain ⟨K,hK⟩:∃K,Pg.hgtF p u f=K:=⟨_,rfl⟩
 rw [hK]
 unfold Pg.hgtF at hK
 unfold posO at hal
 by_cases h12:p.all false=true∧uniOk u=true
 ·rw [if_pos h12] at hal
  rw [all_ok h12.1,Bool.true_and] at hfo
  obtain ⟨hu,he⟩:=Uni.of h12.2
  cases hg:p.gr (u.map Tm.V) with
  | none =>
   rw [hg] at hK
   have hK':K=-1:=by rw [←hK];split<;>rfl
   rw [hg,allC_none] at hal
   rw [Fc.enc_eq] at hfo
   rw [hK',Fc.enc_eq]
   refine ACalls.enter (fn:=Tryz.f20) Tryz.func20 rfl (by show 3≤_;decide) ?_
   refine run_sound Tryz.func20 mixed 200 _ _ (by kernel_rfl) ?_
   simp only [go_sem,seval]
   repeat' (first
    | ((refine hal.calls rfl ?_)<;>(try simp only [go_sem,seval]))
    | fail)
  | some rs =>
   rw [hg,allC_some] at hal
   obtain ⟨_,hrl⟩:=gr_mem hg
   cases hq:p.factFits f with
   | true =>
    have hok:=fits_ok hq
    rw [if_pos ⟨h12.1,h12.2,hok⟩,hg] at hK
    dsimp only at hK
    rw [hq] at hfo
    have hht:=l19Height_fn rs (Fc.toV f) (by omega)
    rw [hK,←toV_args hok] at hht
    rw [Fc.enc_eq] at hht hfo ⊢
    generalize stgD rs (top rs+1)=SD at *
    refine ACalls.enter (fn:=Tryz.f20) Tryz.func20 rfl (by show 3≤_;decide) ?_
    refine run_sound Tryz.func20 mixed 200 _ _ (by kernel_rfl) ?_
    simp only [go_sem,seval]
    repeat' (first
     | ((first
      | (refine hal.calls rfl ?_)
      | (refine hfo.calls rfl ?_)
      | (refine hht.calls rfl ?_))<;>(try simp only [go_sem,seval]))
     | fail)
   | false =>
    have hK':K=-1:=by
     rw [←hK,hg]
     split
     ·rename_i h3
      refine hgt_no (fun hm=>?_)
      rw [stg_fits (all_ok h12.1) hu hg h3.2.2 hm] at hq
      cases hq
     ·rfl
    rw [hq] at hfo
    rw [Fc.enc_eq] at hfo
    rw [hK',Fc.enc_eq]
    generalize stgD rs (top rs+1)=SD at *
    refine ACalls.enter (fn:=Tryz.f20) Tryz.func20 rfl (by show 3≤_;decide) ?_
    refine run_sound Tryz.func20 mixed 200 _ _ (by kernel_rfl) ?_
    simp only [go_sem,seval]
    repeat' (first
     | ((first
      | (refine hal.calls rfl ?_)
      | (refine hfo.calls rfl ?_))<;>(try simp only [go_sem,seval]))
     | fail)
 ·rw [if_neg h12,allC_none] at hal
  rw [if_neg (fun h=>h12 ⟨h.1,h.2.1⟩)] at hK
  rw [Fc.enc_eq] at hfo
  rw [←hK,Fc.enc_eq]
  generalize (pgOk p && p.factFits f)=b at *
  refine ACalls.enter (fn:=Tryz.f20) Tryz.func20 rfl (by show 3≤_;decide) ?_
  refine run_sound Tryz.func20 mixed 200 _ _ (by kernel_rfl) ?_
  simp only [go_sem,seval]
  repeat' (first
   | ((refine hal.calls rfl ?_)<;>(try simp only [go_sem,seval]))
   | fail)
end Go.Proofs.YtockpdkdnlkkfaaGreat

namespace Go.Proofs.YtockpdkdnlkkfaaGreat
open Go.Abs
set_option maxRecDepth 100000
set_option maxHeartbeats 4000000
set_option linter.unusedSimpArgs false
set_option linter.unusedVariables false
theorem lawFnExactFactHeight (a0:Pg) (a1:List Tm) (a2:Fc) (ha0:Sh Tryz.prog 24 (a0.enc)) (ha1:Sh Tryz.prog 25 [.sl (a1.map Tm.enc)]) (ha2:Sh Tryz.prog 44 (a2.enc)):Gives Tryz.prog 4 [.agg a0.enc,.sl (a1.map Tm.enc),.agg a2.enc] (.d (.bool true)):=by
 have hsza0:=szc24 _ a0.enc (Nat.lt_succ_self _) ha0
 have htoa0:=fun hb=>toc24 _ a0.enc (Nat.lt_succ_self _) hb ha0
 have heqa0:=eqc24 _ a0.enc (Nat.lt_succ_self _) ha0
 have hesa1:=shS (by kernel_rfl:leaves Tryz.prog 6 25=some [.sl 65]) ha1
 have hsza1:=szs25 _ hesa1.1 hesa1.2
 have htoa1:=fun hb=>tos25 _ hb hesa1.2
 have heqa1:=eqs25 _ hesa1.1 hesa1.2
 have hsza2:=szc44 _ a2.enc (Nat.lt_succ_self _) ha2
 have htoa2:=fun hb=>toc44 _ a2.enc (Nat.lt_succ_self _) hb ha2
 have heqa2:=eqc44 _ a2.enc (Nat.lt_succ_self _) ha2
 refine ACalls.enter (fn:=Tryz.f4) Tryz.func4 rfl (by show 3≤_;decide) ?_
 refine run_sound Tryz.func4 mixed 200 _ _ (by kernel_rfl) ?_
 simp only [go_sem,seval]
 refine (hsza0 _ (by omega) (by omega)).calls rfl ?_
 simp only [go_sem,seval]
 refine br_intro (fun hq=>?_) (fun hq=>?_)
 ·simp only [go_sem,seval]
 simp only [decide_eq_false_iff_not] at hq
 have hwa0:=szr_ge hq
 rw [szr_pos hwa0]
 clear hq
 simp only [go_sem,seval]
 refine (hsza1 _ (by omega) (by omega)).calls rfl ?_
 simp only [go_sem,seval]
 refine br_intro (fun hq=>?_) (fun hq=>?_)
 ·simp only [go_sem,seval]
 simp only [decide_eq_false_iff_not] at hq
 have hwa1:=szr_ge hq
 rw [szr_pos hwa1]
 clear hq
 simp only [go_sem,seval]
 refine (hsza2 _ (by omega) (by omega)).calls rfl ?_
 simp only [go_sem,seval]
 refine br_intro (fun hq=>?_) (fun hq=>?_)
 ·simp only [go_sem,seval]
 simp only [decide_eq_false_iff_not] at hq
 have hwa2:=szr_ge hq
 rw [szr_pos hwa2]
 clear hq
 simp only [go_sem,seval]
 repeat' (first
  | ((first
   | (refine (htoa0 (by omega)).calls rfl ?_)
   | (refine (htoa0 (by omega)).callQ rfl ?_)
   | (refine heqa0.callQ rfl ?_)
   | (refine (htoa1 (by omega)).calls rfl ?_)
   | (refine (htoa1 (by omega)).callQ rfl ?_)
   | (refine heqa1.calls rfl ?_)
   | (refine (htoa2 (by omega)).calls rfl ?_)
   | (refine (htoa2 (by omega)).callQ rfl ?_)
   | (refine heqa2.callQ rfl ?_)
   | (refine (sFactHeight_fn _ _ _ sd sd sd).callQ rfl ?_)
   | (refine (iFactHeight_fn _ _ _ sd sd sd).calls rfl ?_))<;>(try simp only [go_sem,seval]))
  | fail)
 all_goals try clear ih
 all_goals try clear hnext
 all_goals first
  | (simp_all;done)
  | (simp_all;omega)
  | (simp_all;split<;>simp_all<;>omega)
  | (exfalso;omega)
  | assumption
end Go.Proofs.YtockpdkdnlkkfaaGreat
