/- What is proved: the law FnLinesNone answers true to every code, and the code reads behind the call as it read before; its card, tied to the program's text. No condition but the row's own. -/
import Derived.Test.YtbdfdbkbmegcgaaGreatDoorPLNone
import Derived.Test.YtbdfdbkbmegcgaaGreatDoorPQ1
import Derived.Test.YtbdfdbkbmegcgaaGreatDoorTie
import Derived.Test.YtbdfdbkbmegcgaaGreatDoorCards
import Derived.SevenTiedAt
import Derived.Stop.Joined
set_option linter.all false
set_option maxRecDepth 100000
set_option maxHeartbeats 16000000
namespace Go.Proofs.YtbdfdbkbmegcgaaGreatDoor
open Go.ChangeShapes Go.WideShapes Go.ChangeAt Go.RowKit Go.Hw
theorem fnLinesNone_lifted (os:Os) (started:os.Started) (H:Type) (enc:TypeId × Value→H) :
   ReturnsInHanded {} Tryz.checked os 11 .any (fun w args=>(Rows.fnLinesNoneSpec.pre enc Tryz.prog Tryz.f11 Rows.fnLinesNoneRow.domain false w args∧laidMetH Tryz.prog Rows.fnLinesNoneRow.laid w)∧sizedMet enc Tryz.prog Tryz.f11 (OpenSpec.ofChange Rows.fnLinesNoneSpec) false w args)
     (Rows.fnLinesNoneSpec.post enc Tryz.prog Tryz.f11 false true false false):=by
 refine returnsInHanded_shaped (C:=Tryz.checked) (X:=fun w _=>laidMetH Tryz.prog laidAllL w) (fun _ _ _ hh h=>h.of_heap hh) own started (by kernel_rfl) Tryz.func11
   (ChangeSpec.witness_shaped (enc:=enc) (C:=Tryz.checked) (os:=os) (X:=fun w _=>laidMetH Tryz.prog laidAllL w) false (World.laidAll Tryz.prog os laidAllL) #[.slice none 0 0] 8 (World.laidAll_os _ _ _)
     (laid_shaped os _) (by kernel_rfl) (by kernel_rfl) (by kernel_rfl) (laid_met os _)) ?_
 intro W base args ds gs before hsh hval0 hW _ hL
 have hval:∀ (j:Nat) t v,Tryz.f11.params[j]? = some t→args[j]? = some v→Value.okWide Tryz.prog W .any base t v:=hval0
 have hW':=hW
 obtain ⟨p,q,hA0,hV0,rfl,_,_⟩:=hW
 have hA:DataW.TrodAll enc Tryz.prog W 0 (fun _=>true) true Tryz.f11.params.toList args.toList ds p:=hA0
 have hV:DataW.TrodVars enc Tryz.prog W (fun _=>true) ["loop.example/hawser/impl.errPacketText"] gs q:=hV0
 rw [Tryz.params11] at hA hval
 obtain ⟨v0,d0,rfl,rfl,h0⟩:=trodAll_one hA
 obtain ⟨a0,len,cap,rfl⟩:=okWide_slice Tryz.underlying22 (hval 0 22 v0 rfl rfl)
 obtain ⟨m,ad,a7,a8,v1,b0,b1,b7,b8⟩:=blocks_of hL hsh
 obtain ⟨rfl,rfl⟩:=hV.unique (vars_read (x:=.iface 268 (.pointer (some ad))) enc v1 trivial _)
 have h0k:=h0
 obtain ⟨fuel,hf⟩:=h0
 clear hA0 hV0 hval0
 have h1:1 < W.heap.size:=(Array.getElem?_eq_some_iff.1 b1).1
 have hlt:∀ x ∈ p,x.block < W.heap.size:=fun x hx=>by simpa using hW'.lt x (List.mem_append_left _ hx)
 have hargs:∀ (W':World),Below W.heap.size W W'→DataW.Trod enc Tryz.prog W' 0 (fun b=>decide (b < W.heap.size)) true 22 (.slice a0 len cap) d0 p :=
   fun W' hn=>Below.trod laidOut (by kernel_rfl) (of_decide_eq_true (by kernel_rfl)) h0k hn hlt
 have hvars:∀ (W':World),Below W.heap.size W W'→DataW.TrodVars enc Tryz.prog W' (fun b=>decide (b < W.heap.size)) ["loop.example/hawser/impl.errPacketText"] [tok enc (.iface 268 (.pointer (some ad)))] [.cell 1 0] :=
   fun W' hn=>vars_read (x:=.iface 268 (.pointer (some ad))) enc (var_of_heap named0 (by rw [hn.block 1 h1];exact b1)) trivial _
 rcases open_ints Tryz.underlying22 Tryz.underlying5 cells5 hf with ⟨hcs,hx⟩|⟨a,len',cap',zs,hcs,_,hl,hm,hz,hx,hcell,hwz⟩
 · simp [Value.cells] at hcs
   obtain ⟨rfl,rfl,rfl⟩:=hcs
   simp only [Prod.mk.injEq] at hx
   obtain ⟨rfl,rfl⟩:=hx
   refine (lines_below (FnLinesNone_all [] m ad _ _ (fun i=>by simp) ⟨_,_,rfl⟩ ⟨_,_,rfl⟩) W (code_at (cap:=0) (a:=none) (Nat.le_refl _) (fun i hi=>absurd hi (Nat.not_lt_zero i)) b0 b1 b7 b8 (by simp) (by simp) (by simp)) rfl rfl b0 b1 b7 b8).mono fun e W' ⟨he,hnx⟩=>?_
   subst he
   exact ⟨_,rfl,_,_,_,[],[],[.cell 1 0],hW',trodAll_mk1 (shut_bool Tryz.underlying4 true),trodAll_mk1 (hargs _ hnx),hvars _ hnx,hnx.frame _,fun h=>by cases h⟩
 · simp [Value.cells] at hcs
   obtain ⟨rfl,rfl,rfl⟩:=hcs
   simp only [Prod.mk.injEq] at hx
   obtain ⟨rfl,rfl⟩:=hx
   simp only [if_true] at hz
   have hlen:(zs.take len).length=len:=by simp;omega
   have hb:=bytes_wf (zs.take len) (fun n hn=>hwz n (List.mem_of_mem_take hn))
   have hcl:∀ i,i < (zs.take len).length→∃ b o,some a=some ⟨b,o,none⟩∧b < W.heap.size∧W.cell? ⟨b,o+i,none⟩=some (.int .u8 ((zs.take len).getD i 0)):=by
     intro i hi
     have h1:=hcell i (by omega)
     have h2:zs.getD i 0=(zs.take len).getD i 0:=by
       simp only [List.getD];rw [List.getElem?_take,if_pos (by omega)]
     rw [h2] at h1
     exact cell_at (spot_at (hcell 0 (by omega))) h1
   have hcall:=lines_below (FnLinesNone_all (zs.take len) m ad _ _ hb ⟨_,_,rfl⟩ ⟨_,_,rfl⟩) W (code_at (cap:=cap) (a:=some a) (by omega) hcl b0 b1 b7 b8 (by simp) (by simp) (by simp)) rfl rfl b0 b1 b7 b8
   rw [hlen] at hcall
   refine hcall.mono fun e W' ⟨he,hnx⟩=>?_
   subst he
   exact ⟨_,rfl,_,_,_,[],_,[.cell 1 0],hW',trodAll_mk1 (shut_bool Tryz.underlying4 true),trodAll_mk1 (hargs _ hnx),hvars _ hnx,hnx.frame _,fun h=>by cases h⟩
theorem fnLinesNone_closed:joinedFacts Tryz.prog 11 Tryz.f11 Rows.fnLinesNoneSpec Rows.fnLinesNoneRow=true:=by
 unfold joinedFacts
 simp only [Bool.and_eq_true]
 repeat' apply And.intro
 all_goals as_aux_lemma=>kernel_rfl
theorem fnLinesNone_wrap:(Tryz.f11).isWrapper Tryz.prog Rows.fnLinesNoneRow.wrapper Rows.fnLinesNoneRow.mainSum:=by
 unfold Func.isWrapper;first|(rw [if_pos (by decide +kernel)];kernel_rfl)|(rw [if_neg (by decide +kernel)];exact ⟨rfl,rfl⟩)
theorem fnLinesNone_inst:(Tryz.f11).isInstance Tryz.prog Rows.fnLinesNoneRow.origin Rows.fnLinesNoneRow.targs:=of_decide_eq_true (by kernel_rfl)
theorem fnLinesNone_named:Tryz.prog.funcNamed Rows.fnLinesNoneRow.func=some 11:=by kernel_rfl
theorem fnLinesNone_holds:Rows.FnLinesNoneSaid :=
 OpenClaim.holds_of_wide 11 Tryz.f11 rfl rfl rfl rfl rfl rfl rfl ⟨rfl,rfl,rfl,rfl,rfl⟩ rfl rfl rfl rfl rfl fnLinesNone_named Tryz.func11 fnLinesNone_closed fnLinesNone_inst fnLinesNone_wrap
   (fun os started H enc _=>fnLinesNone_lifted os started H enc)
theorem fnLinesNone_card:Rows.FnLinesNoneCardSaid :=
 Claim7.holds_tied_plain_at .later [] [.data,.data,.data,.data,.sentinel,.sentinel,.sentinel,.pinned] true (true,"ed1d61f8ca3847bf49e76f8ea8f077fe7174183f55b469b7258494ab812551f8") true
   fnLinesNone_holds (fun _ h=>by cases h) (by kernel_rfl) (fun _ h=>by cases h) fnLinesNone_row_tie rfl ⟨rfl,rfl⟩ (by kernel_rfl) rfl
   (fun f fn hf hfn=>by
     obtain rfl:f=11:=Option.some.inj (fnLinesNone_named.symm.trans hf) |>.symm
     obtain rfl:fn=Tryz.f11:=(Option.some.inj (Tryz.func11.symm.trans hfn)).symm
     exact ⟨by kernel_rfl,fun j t ht=>by
       rw [Tryz.params11] at ht
       have h9:t=22:=by
         rcases j with _|j
         · simpa using ht.symm
         · simp at ht
       subst h9
       exact (show Tryz.prog.wantsStandIn 22=false by kernel_rfl)⟩)
   (by kernel_rfl)
end Go.Proofs.YtbdfdbkbmegcgaaGreatDoor
