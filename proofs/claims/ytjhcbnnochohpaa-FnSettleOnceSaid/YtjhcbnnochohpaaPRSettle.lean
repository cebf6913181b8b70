/- What is proved: the law FnSettleOnce answers true to every two codes, and the codes read behind the call as they read before. No condition. -/
import Derived.Test.YtjhcbnnochohpaaPLSettle
import Derived.Test.YtjhcbnnochohpaaRows
import Derived.ProofKit
set_option linter.all false
set_option maxRecDepth 100000
set_option maxHeartbeats 16000000
namespace Go.Proofs.Ytjhcbnnochohpaa
open Go.ChangeShapes Go.WideShapes Go.ChangeAt Go.RowKit Go.Hw
theorem own:ownKnob Try.prog.godebug=none:=by kernel_rfl
theorem laidOut:laidOutB Try.prog=true:=by kernel_rfl
theorem cells5:Try.prog.cellsOf 5=1:=by kernel_rfl
structure CodeAt (W:World) (v:Value) (l:List Int):Prop where
 bytes:∀ i,0≤l.getD i 0∧l.getD i 0≤255
 spot:∃ a cap,v=.slice a l.length cap∧l.length≤cap∧∀ i,i < l.length→∃ b o,a=some ⟨b,o,none⟩∧b < W.heap.size∧W.cell? ⟨b,o+i,none⟩=some (.int .u8 (l.getD i 0))
theorem CodeAt.at {W:World} {v:Value} {l:List Int} (h:CodeAt W v l) (ρ:Rho):(A1.c (.t (bytesT l))).At W (fun b=>b < W.heap.size) ρ v:=by
 obtain ⟨a,cap,rfl,hcap,hcell⟩:=h.spot
 refine ⟨a,cap,rfl,hcap,fun i hi=>?_⟩
 obtain ⟨b,o,e1,e2,e3⟩:=hcell i hi
 refine ⟨b,o,e1,e2,fun j hj=>?_⟩
 have:j=0:=by omega
 subst this
 refine ⟨_,by rw [Nat.mul_one,Nat.add_zero];exact e3,rfl,rfl⟩
theorem law_below2 {f:FuncId} {x y:A1} {v u:Value} (hc:Go.Hw.Call Try.prog f [x,y] [] 0 (.o (BB true)) [] 0) (W:World) (hx:∀ ρ,x.At W (fun b=>b < W.heap.size) ρ v) (hy:∀ ρ,y.At W (fun b=>b < W.heap.size) ρ u) :
   Calls Try.prog f #[v,u] W fun e W'=>e=.returned (.bool true)∧Below W.heap.size W W':=by
 obtain ⟨_,_,h⟩:=hc
 refine (h W (fun b=>b < W.heap.size) (fun _=>none) #[v,u] ⟨hx _,hy _,trivial⟩ ⟨fun x hx=>(by cases hx),List.Pairwise.nil⟩ (fun _ h=>h) (fun _ _=>rfl)).mono ?_
 rintro e W' ⟨_,w,A',ρ',_,rfl,hv,_,hos,htp,hou,hsz,hold,_⟩
 obtain ⟨rfl,_⟩:=hv
 exact ⟨rfl,⟨hos,htp,hou,hsz,fun k hk=>hold k hk (fun ⟨x,hx,_⟩=>(by cases hx))⟩⟩
theorem bytes_wf (l:List Int) (h:∀ n ∈ l,(Lit.int .u8 n).wf=true):∀ i,0≤l.getD i 0∧l.getD i 0≤255:=by
 intro i
 by_cases hi:i < l.length
 · have:=h _ (getD_mem (d:=0) hi)
   have h1:IntKind.u8.min=0:=rfl
   have h2:IntKind.u8.max=255:=rfl
   simp only [Lit.wf,Bool.and_eq_true,decide_eq_true_eq] at this
   omega
 · rw [getD_len (by omega)];decide
theorem spot_at {W:World} {a:Addr} {v:Value} (h:W.cell? (a.add 0)=some v):a.spot=none:=by
 obtain ⟨b,o,sp⟩:=a
 cases sp with
 | none=>rfl
 | some s =>
   exfalso
   unfold World.cell? at h
   split at h
   · simp [Addr.add] at h
   · cases h
theorem cell_at {W:World} {a:Addr} {i:Nat} {v:Value} (hs:a.spot=none) (h:W.cell? (a.add i)=some v):∃ b o,some a=some ⟨b,o,none⟩∧b < W.heap.size∧W.cell? ⟨b,o+i,none⟩=some v:=by
 obtain ⟨b,o,sp⟩:=a
 simp only at hs
 subst hs
 rw [add_lit] at h
 refine ⟨b,o,rfl,?_,h⟩
 cases hb:W.heap[b]? with
 | none=>simp [World.cell?,hb] at h
 | some x=>exact (Array.getElem?_eq_some_iff.1 hb).1
theorem code_of {H:Type} {enc:TypeId × Value→H} {W:World} {base:Nat} {v:Value} {d:DataW H} {p:List MemPlace} (hval:Value.okWide Try.prog W .any base 22 v)
   (h0:DataW.Trod enc Try.prog W 0 (fun _=>true) true 22 v d p):∃ l,CodeAt W v l:=by
 obtain ⟨a0,len,cap,rfl⟩:=okWide_slice Try.underlying22 hval
 obtain ⟨fuel,hf⟩:=h0
 rcases open_ints Try.underlying22 Try.underlying5 cells5 hf with ⟨hcs,hx⟩|⟨a,len',cap',zs,hcs,_,hl,hm,hz,hx,hcell,hwz⟩
 · simp [Value.cells] at hcs
   obtain ⟨rfl,rfl,rfl⟩:=hcs
   exact ⟨[],fun i=>by simp,none,0,rfl,Nat.le_refl _,fun i hi=>absurd hi (Nat.not_lt_zero i)⟩
 · simp [Value.cells] at hcs
   obtain ⟨rfl,rfl,rfl⟩:=hcs
   simp only [if_true] at hz
   have hlen:(zs.take len).length=len:=by simp;omega
   refine ⟨zs.take len,bytes_wf (zs.take len) (fun n hn=>hwz n (List.mem_of_mem_take hn)),some a,cap,by rw [hlen],by omega,fun i hi=>?_⟩
   have h1:=hcell i (by omega)
   have h2:zs.getD i 0=(zs.take len).getD i 0:=by
     simp only [List.getD];rw [List.getElem?_take,if_pos (by omega)]
   rw [h2] at h1
   exact cell_at (spot_at (hcell 0 (by omega))) h1
theorem fnSettleOnce_lifted (os:Os) (started:os.Started) (H:Type) (enc:TypeId × Value→H) :
   ReturnsInHanded {} Try.checked os 3 .any (Rows.fnSettleOnceSpec.pre6 enc Try.prog Try.f3 Rows.fnSettleOnceRow.domain false) (Rows.fnSettleOnceSpec.post enc Try.prog Try.f3 false true false false):=by
 refine returnsInHanded_of_change (C:=Try.checked) own started (by kernel_rfl) Try.func3
   (ChangeSpec.witness6 (enc:=enc) (C:=Try.checked) false ⟨#[],#[.slice none 0 0,.slice none 0 0],[]⟩ 8 (by kernel_rfl) (by kernel_rfl) (by kernel_rfl) (by kernel_rfl)) ?_
 intro W base args ds gs before hval0 hW _ _
 have hval:∀ (j:Nat) t v,Try.f3.params[j]? = some t→args[j]? = some v→Value.okWide Try.prog W .any base t v:=hval0
 have hW':=hW
 obtain ⟨p,q,hA0,hV,rfl,_,_⟩:=hW
 have hA:DataW.TrodAll enc Try.prog W 0 (fun _=>true) true Try.f3.params.toList args.toList ds p:=hA0
 rw [Try.params3] at hA hval
 obtain ⟨v0,v1,d0,d1,p0,p1,rfl,rfl,rfl,h0,h1⟩:=trodAll_two hA
 obtain ⟨rfl,rfl⟩:=trodVars_none hV
 simp only [List.append_nil] at hW'
 have hlt0:∀ x ∈ p0,x.block < W.heap.size:=fun x hx=>by simpa using hW'.lt x (List.mem_append_left _ hx)
 have hlt1:∀ x ∈ p1,x.block < W.heap.size:=fun x hx=>by simpa using hW'.lt x (List.mem_append_right _ hx)
 obtain ⟨l,hl⟩:=code_of (hval 0 22 v0 rfl rfl) h0
 obtain ⟨m,hm⟩:=code_of (hval 1 22 v1 rfl rfl) h1
 refine (law_below2 (FnSettleOnce_all l m hl.bytes) W hl.at hm.at).mono fun e W' ⟨he,hnx⟩=>?_
 subst he
 exact ⟨_,rfl,_,_,_,[],_,[],hW',trodAll_mk1 (shut_bool Try.underlying4 true),
   trodAll_mk2 (Below.trod laidOut (by kernel_rfl) (of_decide_eq_true (by kernel_rfl)) h0 hnx hlt0) (Below.trod laidOut (by kernel_rfl) (of_decide_eq_true (by kernel_rfl)) h1 hnx hlt1),rfl,hnx.frame _,fun h=>by cases h⟩
theorem fnSettleOnce_closed:joinedFacts Try.prog 3 Try.f3 Rows.fnSettleOnceSpec Rows.fnSettleOnceRow=true:=by
 unfold joinedFacts
 simp only [Bool.and_eq_true]
 repeat' apply And.intro
 all_goals as_aux_lemma=>kernel_rfl
theorem fnSettleOnce_wrap:(Try.f3).isWrapper Try.prog Rows.fnSettleOnceRow.wrapper Rows.fnSettleOnceRow.mainSum:=by
 unfold Func.isWrapper;first|(rw [if_pos (by decide +kernel)];kernel_rfl)|(rw [if_neg (by decide +kernel)];exact ⟨rfl,rfl⟩)
theorem fnSettleOnce_inst:(Try.f3).isInstance Try.prog Rows.fnSettleOnceRow.origin Rows.fnSettleOnceRow.targs:=of_decide_eq_true (by kernel_rfl)
theorem fnSettleOnce_named:Try.prog.funcNamed Rows.fnSettleOnceRow.func=some 3:=by kernel_rfl
theorem fnSettleOnce_holds:Rows.FnSettleOnceSaid :=
 OpenClaim.holds_of_wide 3 Try.f3 rfl rfl rfl rfl rfl rfl rfl ⟨rfl,rfl,rfl,rfl,rfl⟩ rfl rfl rfl rfl rfl fnSettleOnce_named Try.func3 fnSettleOnce_closed fnSettleOnce_inst fnSettleOnce_wrap
   (fun os started H enc _=>fnSettleOnce_lifted os started H enc)
end Go.Proofs.Ytjhcbnnochohpaa
