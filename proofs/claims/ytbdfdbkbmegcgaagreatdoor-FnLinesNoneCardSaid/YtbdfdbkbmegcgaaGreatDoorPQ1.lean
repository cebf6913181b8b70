/- What is proved here: parts of the walk of the law and of its plain side; no condition but those that each theorem states. -/
import Derived.Test.YtbdfdbkbmegcgaaGreatDoorPE1
import Derived.Test.YtbdfdbkbmegcgaaGreatDoorPR1
set_option linter.all false
set_option maxRecDepth 100000
set_option maxHeartbeats 16000000
namespace Go.Proofs.YtbdfdbkbmegcgaaGreatDoor
open Go.ChangeShapes Go.WideShapes Go.ChangeAt Go.RowKit Go.Hw
theorem laidOut:laidOutB Tryz.prog=true:=by kernel_rfl
theorem cells5:Tryz.prog.cellsOf 5=1:=by kernel_rfl
theorem bytes_wf (l:List Int) (h:∀ n ∈ l,(Lit.int .u8 n).wf=true):∀ i,0≤l.getD i 0∧l.getD i 0≤255:=by
 intro i
 by_cases hi:i < l.length
 · have:=h _ (getD_mem (d:=0) hi)
   have h1:IntKind.u8.min=0:=rfl
   have h2:IntKind.u8.max=255:=rfl
   simp only [Lit.wf,Bool.and_eq_true,decide_eq_true_eq] at this
   omega
 · rw [getD_len (by omega)];decide
theorem spot_at {W:World} {a:Addr} {v:Value} (h:W.cell? (a.add 0)=some v):a.spot=none:=by
 obtain ⟨b,o,sp⟩:=a
 cases sp with
 | none=>rfl
 | some s =>
   exfalso
   unfold World.cell? at h
   split at h
   · simp [Addr.add] at h
   · cases h
theorem cell_at {W:World} {a:Addr} {i:Nat} {v:Value} (hs:a.spot=none) (h:W.cell? (a.add i)=some v):∃ b o,some a=some ⟨b,o,none⟩∧b < W.heap.size∧W.cell? ⟨b,o+i,none⟩=some v:=by
 obtain ⟨b,o,sp⟩:=a
 simp only at hs
 subst hs
 rw [add_lit] at h
 refine ⟨b,o,rfl,?_,h⟩
 cases hb:W.heap[b]? with
 | none=>simp [World.cell?,hb] at h
 | some x=>exact (Array.getElem?_eq_some_iff.1 hb).1
theorem not_byte {W:World} {g o:Nat} {v:Value} {t:TypeId} {n:Int} (h:W.heap[g]? = some (.cells #[v] t (0,0))) (hv:∀ n,v ≠ .int .u8 n):W.cell? ⟨g,o,none⟩ ≠ some (.int .u8 n):=by
 intro hc
 simp only [World.cell?,h] at hc
 rcases o with _|o
 · simp at hc;exact hv n hc
 · simp at hc
theorem code_at {W:World} {l:List Int} {a:Option Addr} {cap:Nat} {m:Int} {e1 e7 e8:Value} (hcap:l.length≤cap)
   (hcell:∀ i,i < l.length→∃ b o,a=some ⟨b,o,none⟩∧b < W.heap.size∧W.cell? ⟨b,o+i,none⟩=some (.int .u8 (l.getD i 0)))
   (h0:W.heap[0]? = some (.cells #[.int .i64 m] 3 (0,0))) (h1:W.heap[1]? = some (.cells #[e1] 66 (0,0))) (h7:W.heap[7]? = some (.cells #[e7] 66 (0,0))) (h8:W.heap[8]? = some (.cells #[e8] 66 (0,0)))
   (n1:∀ n,e1 ≠ .int .u8 n) (n7:∀ n,e7 ≠ .int .u8 n) (n8:∀ n,e8 ≠ .int .u8 n) (ρ:Rho) :
   (A1.c (.t (bytesT l))).At W (fun b=>b < W.heap.size∧(b ≠ 0∧b ≠ 1)∧(b ≠ 7∧b ≠ 8)) ρ (.slice a l.length cap):=by
 refine ⟨a,cap,rfl,hcap,fun i hi=>?_⟩
 obtain ⟨b,o,q1,q2,q3⟩:=hcell i hi
 refine ⟨b,o,q1,⟨q2,⟨?_,?_⟩,?_,?_⟩,fun j hj=>?_⟩
 · rintro rfl;exact not_byte h0 (by simp) q3
 · rintro rfl;exact not_byte h1 n1 q3
 · rintro rfl;exact not_byte h7 n7 q3
 · rintro rfl;exact not_byte h8 n8 q3
 · have:j=0:=by omega
   subst this
   exact ⟨_,by rw [Nat.mul_one,Nat.add_zero];exact q3,rfl,rfl⟩
end Go.Proofs.YtbdfdbkbmegcgaaGreatDoor
