/- What is proved: the law FnExactLinesRun answers true to every text, and the text reads behind the call as it read before; its card, tied to the program's text. No condition but the row's own. -/
import Derived.Test.YtbdfdbkbmegcgaaGreatDoorPI4
import Derived.Test.YtbdfdbkbmegcgaaGreatDoorPR1
import Derived.Test.YtbdfdbkbmegcgaaGreatDoorTie
import Derived.Test.YtbdfdbkbmegcgaaGreatDoorCards
import Derived.SevenTiedAt
import Derived.Stop.Joined
set_option linter.all false
set_option maxRecDepth 100000
set_option maxHeartbeats 16000000
namespace Go.Proofs.YtbdfdbkbmegcgaaGreatDoor
open Go.ChangeShapes Go.WideShapes Go.ChangeAt Go.RowKit Go.Hw
theorem fnExactLinesRun_lifted (os:Os) (started:os.Started) (H:Type) (enc:TypeId × Value→H) :
   ReturnsInHanded {} Tryz.checked os 6 .any (fun w args=>(Rows.fnExactLinesRunSpec.pre enc Tryz.prog Tryz.f6 Rows.fnExactLinesRunRow.domain false w args∧laidMetH Tryz.prog Rows.fnExactLinesRunRow.laid w)∧sizedMet enc Tryz.prog Tryz.f6 (OpenSpec.ofChange Rows.fnExactLinesRunSpec) false w args)
     (Rows.fnExactLinesRunSpec.post enc Tryz.prog Tryz.f6 false true false false):=by
 refine returnsInHanded_shaped (C:=Tryz.checked) (X:=fun w _=>laidMetH Tryz.prog laidAllL w) (fun _ _ _ hh h=>h.of_heap hh) own started (by kernel_rfl) Tryz.func6
   (ChangeSpec.witness_shaped (enc:=enc) (C:=Tryz.checked) (os:=os) (X:=fun w _=>laidMetH Tryz.prog laidAllL w) false (World.laidAll Tryz.prog os laidAllL) #[.string ⟨#[]⟩] 8 (World.laidAll_os _ _ _)
     (laid_shaped os _) (by kernel_rfl) (by kernel_rfl) (by kernel_rfl) (laid_met os _)) ?_
 intro W base args ds gs before hsh hval0 hW _ hL
 have hval:∀ (j:Nat) t v,Tryz.f6.params[j]? = some t→args[j]? = some v→Value.okWide Tryz.prog W .any base t v:=hval0
 have hW':=hW
 obtain ⟨p,q,hA0,hV0,rfl,_,_⟩:=hW
 have hA:DataW.TrodAll enc Tryz.prog W 0 (fun _=>true) true Tryz.f6.params.toList args.toList ds p:=hA0
 have hV:DataW.TrodVars enc Tryz.prog W (fun _=>true) ["loop.example/hawser/impl.errPacketText"] gs q:=hV0
 rw [Tryz.params6] at hA hval
 obtain ⟨v0,d0,rfl,rfl,h0⟩:=trodAll_one hA
 obtain ⟨s,rfl,rfl,rfl,hsz⟩:=Go.ChangeMaps.open_string Tryz.underlying9 (hval 0 9 v0 rfl rfl) h0
 obtain ⟨⟨l⟩⟩:=s
 obtain ⟨m,ad,a7,a8,v1,b0,b1,b7,b8⟩:=blocks_of hL hsh
 obtain ⟨rfl,rfl⟩:=hV.unique (vars_read enc v1 trivial _)
 clear hA0 hV0 hval0
 have hcall:Calls Tryz.prog 6 #[.string ⟨⟨l⟩⟩] W fun e W'=>e=.returned (.bool true)∧Below W.heap.size W W' :=
   lines_below (FnExactLinesRun_all l m ad _ _ ⟨_,_,rfl⟩ ⟨_,_,rfl⟩ (by have h2:l.length≤maxLen:=hsz;unfold maxLen at h2;omega)) W (fun ρ=>⟨rfl,rfl⟩) rfl rfl b0 b1 b7 b8
 refine hcall.mono fun e W' ⟨he,hnx⟩=>?_
 subst he
 have h1:1 < W.heap.size:=(Array.getElem?_eq_some_iff.1 b1).1
 exact ⟨_,rfl,_,_,_,[],[],[.cell 1 0],hW',trodAll_mk1 (shut_bool Tryz.underlying4 true),trodAll_mk1 (Go.ChangeMaps.shut_string Tryz.underlying9 hsz),vars_read (x:=.iface 268 (.pointer (some ad))) enc (var_of_heap named0 (by rw [hnx.block 1 h1];exact b1)) trivial _,hnx.frame _,fun h=>by cases h⟩
theorem fnExactLinesRun_closed:joinedFacts Tryz.prog 6 Tryz.f6 Rows.fnExactLinesRunSpec Rows.fnExactLinesRunRow=true:=by
 unfold joinedFacts
 simp only [Bool.and_eq_true]
 repeat' apply And.intro
 all_goals as_aux_lemma=>kernel_rfl
theorem fnExactLinesRun_wrap:(Tryz.f6).isWrapper Tryz.prog Rows.fnExactLinesRunRow.wrapper Rows.fnExactLinesRunRow.mainSum:=by
 unfold Func.isWrapper;first|(rw [if_pos (by decide +kernel)];kernel_rfl)|(rw [if_neg (by decide +kernel)];exact ⟨rfl,rfl⟩)
theorem fnExactLinesRun_inst:(Tryz.f6).isInstance Tryz.prog Rows.fnExactLinesRunRow.origin Rows.fnExactLinesRunRow.targs:=of_decide_eq_true (by kernel_rfl)
theorem fnExactLinesRun_named:Tryz.prog.funcNamed Rows.fnExactLinesRunRow.func=some 6:=by kernel_rfl
theorem fnExactLinesRun_holds:Rows.FnExactLinesRunSaid :=
 OpenClaim.holds_of_wide 6 Tryz.f6 rfl rfl rfl rfl rfl rfl rfl ⟨rfl,rfl,rfl,rfl,rfl⟩ rfl rfl rfl rfl rfl fnExactLinesRun_named Tryz.func6 fnExactLinesRun_closed fnExactLinesRun_inst fnExactLinesRun_wrap
   (fun os started H enc _=>fnExactLinesRun_lifted os started H enc)
theorem fnExactLinesRun_card:Rows.FnExactLinesRunCardSaid :=
 Claim7.holds_tied_plain_at .later [] [.data,.data,.data,.data,.sentinel,.sentinel,.sentinel,.pinned] true (true,"ed1d61f8ca3847bf49e76f8ea8f077fe7174183f55b469b7258494ab812551f8") true
   fnExactLinesRun_holds (fun _ h=>by cases h) (by kernel_rfl) (fun _ h=>by cases h) fnExactLinesRun_row_tie rfl ⟨rfl,rfl⟩ (by kernel_rfl) rfl
   (fun f fn hf hfn=>by
     obtain rfl:f=6:=Option.some.inj (fnExactLinesRun_named.symm.trans hf) |>.symm
     obtain rfl:fn=Tryz.f6:=(Option.some.inj (Tryz.func6.symm.trans hfn)).symm
     exact ⟨by kernel_rfl,fun j t ht=>by
       rw [Tryz.params6] at ht
       have h9:t=9:=by
         rcases j with _|j
         · simpa using ht.symm
         · simp at ht
       subst h9
       exact (show Tryz.prog.wantsStandIn 9=false by kernel_rfl)⟩)
   (by kernel_rfl)
end Go.Proofs.YtbdfdbkbmegcgaaGreatDoor
