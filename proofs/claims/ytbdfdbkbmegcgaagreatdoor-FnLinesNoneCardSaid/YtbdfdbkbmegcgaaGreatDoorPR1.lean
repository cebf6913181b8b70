/- What is proved here: parts of the walk of the law and of its plain side; no condition but those that each theorem states. -/
import Derived.Test.YtbdfdbkbmegcgaaGreatDoorPI2
import Derived.Test.YtbdfdbkbmegcgaaGreatDoorRows
import Derived.ProofKit
import Derived.LaidLaws
import Derived.MakeChecks
import Derived.RowKitTokens
import Derived.ChangeVars
import Derived.ChangeMaps5
import Derived.Lay
set_option linter.all false
set_option maxRecDepth 100000
set_option maxHeartbeats 16000000
namespace Go.Proofs.YtbdfdbkbmegcgaaGreatDoor
open Go.ChangeShapes Go.WideShapes Go.ChangeAt Go.RowKit Go.Hw
theorem own:ownKnob Tryz.prog.godebug=none:=by kernel_rfl
theorem returnsInHanded_shaped {H:Type} {enc:TypeId × Value→H} {a:Assume} {C:Checked} {os:Os} {f:FuncId} {fn:Func} {s:ChangeSpec} {conds:List PathCond} {apart fresh handsOn again:Bool} {X:World→Array Value→Prop}
   (hX:∀ (w w':World) (args:Array Value),w.heap=w'.heap→X w args→X w' args)
   (own:ownKnob C.prog.godebug=none) (started:os.Started) (noInit:C.prog.inits.idxOf? f=none) (hfn:C.prog.funcs[f]? = some fn)
   (witness:∃ (w:World) (tape:Tape) (i:Input),w.os=os∧(w.forCall tape i).Shaped C.prog∧i.vars=[]∧Input.okWide C.prog (w.forCall tape i) .any w.heap.size f i ∧
     ((s.pre enc C.prog fn conds apart (w.forCall tape i).memory i.args∧X (w.forCall tape i).memory i.args)∧sizedMet enc C.prog fn (OpenSpec.ofChange s) apart (w.forCall tape i).memory i.args)∧a.holds C.prog (lone (Frame.enter C.prog f i.args .normal) [] (w.forCall tape i)))
   (contract:∀ (W:World) (base:Nat) (args:Array Value) (ds gs:List (DataW H)) (before:List MemPlace),W.ShapedOpen C.prog →
     (∀ (j:Nat) t v,fn.params[j]? = some t→args[j]? = some v→Value.okWide C.prog W .any base t v) →
     DataW.Whole enc C.prog fn.params.toList s.vars apart W args.toList ds gs before →
     conds.all (PathCond.test C.prog ⟨fn.params.toList,ds,s.plain.varTypes C.prog,gs⟩)=true →
     X W args →
     Calls C.prog f args W fun e W'=>∃ v,e=.returned v∧s.post enc C.prog fn apart fresh handsOn again W args v W') :
   ReturnsInHanded a C os f .any (fun w args=>(s.pre enc C.prog fn conds apart w args∧X w args)∧sizedMet enc C.prog fn (OpenSpec.ofChange s) apart w args) (s.post enc C.prog fn apart fresh handsOn again):=by
 refine returnsInHanded_of_calls own started noInit witness ?_
 intro w tape i _ hsh _ hok hpre hholds
 obtain ⟨_,_,_,fn',hfn',_,_,_,_,hval⟩:=hok
 have e:fn'=fn:=Option.some.inj (hfn'.symm.trans hfn)
 subst e
 obtain ⟨⟨⟨ds,gs,before,hw,hc⟩,hx⟩,hz⟩:=hpre
 have hw':=DataW.Whole.of_heap (w':=w.forCall tape i) (by rfl) hw
 refine (contract (w.forCall tape i) w.heap.size i.args ds gs before hsh hval hw' hc (hX _ _ _ (by rfl) hx)).mono fun e W' ⟨v,he,hp⟩=>?_
 subst he
 exact ChangeSpec.post_blind hp
theorem laid_mem {P:Program} {W:World}:∀ {l:List (String × DataW Unit)} {ps:List MemPlace} {n:String} {d:DataW Unit},DataW.LaidVars P W l ps→(n,d) ∈ l →
   ∃ g t cs fuel p,P.globalNamed n=some g∧(P.globals[g]?).map (·.type)=some t∧W.var? P n=some cs∧DataW.trod (fun _=>()) P W 0 (fun _=>true) false fuel t cs.toList=some (d,p)∧∀ x ∈ MemPlace.row ⟨g,0,none⟩ cs.size,x ∈ ps
 | [],_,_,_,_,hm=>by cases hm
 | (n',d') ::r,ps,n,d,⟨g,t,cs,fuel,p,q,h1,h2,h3,h4,h5,e⟩,hm=>by
   rcases List.mem_cons.1 hm with hm|hm
   · cases hm
     exact ⟨g,t,cs,fuel,p,h1,h2,h3,h4,fun x hx=>by rw [e];simp [hx]⟩
   · obtain ⟨g',t',cs',fuel',p',a1,a2,a3,a4,a5⟩:=laid_mem h5 hm
     exact ⟨g',t',cs',fuel',p',a1,a2,a3,a4,fun x hx=>by rw [e];simp [a5 x hx]⟩
theorem var_block {P:Program} {W:World} (hsh:W.ShapedOpen P) {n:String} {g:Nat} {cs:Array Value} {zero:Array Value} {t:TypeId} (hg:P.globalNamed n=some g) (hlt:g < P.globals.size)
   (hz:((begin P (fun _ _=>0) default).world.heap[g]?).bind Obj.row? = some (zero,t)) (hv:W.var? P n=some cs):W.heap[g]? = some (.cells cs t (0,0)):=by
 obtain ⟨cs',h1,_⟩:=hsh.1 g zero t hlt hz
 unfold World.var? at hv
 rw [hg,Option.bind_some,h1] at hv
 injection hv with hv
 subst hv
 exact h1
theorem lines_below {f:FuncId} {x:A1} {v:Value} {m:Int} {ad:Addr} {e7 e8:Value}
   (hc:Go.Hw.Call Tryz.prog f [x] (GL m (.iface 268 (.pointer (some ad))) e7 e8) 4 (.o (BB true)) (GL m (.iface 268 (.pointer (some ad))) e7 e8) 4) (W:World)
   (hx:∀ ρ,x.At W (fun b=>b < W.heap.size∧(b ≠ 0∧b ≠ 1)∧(b ≠ 7∧b ≠ 8)) ρ v) (p7:plain e7=true) (p8:plain e8=true)
   (h0:W.heap[0]? = some (.cells #[.int .i64 m] 3 (0,0))) (h1:W.heap[1]? = some (.cells #[.iface 268 (.pointer (some ad))] 66 (0,0)))
   (h7:W.heap[7]? = some (.cells #[e7] 66 (0,0))) (h8:W.heap[8]? = some (.cells #[e8] 66 (0,0))) :
   Calls Tryz.prog f #[v] W fun e W'=>e=.returned (.bool true)∧Below W.heap.size W W':=by
 have lt:∀ {b:Nat} {o:Obj},W.heap[b]? = some o→b < W.heap.size:=fun h=>(Array.getElem?_eq_some_iff.1 h).1
 have cl:∀ {b:Nat} {y:Value} {t:TypeId},W.heap[b]? = some (.cells #[y] t (0,0))→W.cell? ⟨b,0,none⟩=some y:=fun h=>by simp [World.cell?,h]
 obtain ⟨_,_,h⟩:=hc
 refine (h W (fun b=>b < W.heap.size∧(b ≠ 0∧b ≠ 1)∧(b ≠ 7∧b ≠ 8)) (fun i=>if i=0 then some (0,1) else if i=1 then some (1,1) else if i=2 then some (7,1) else if i=3 then some (8,1) else none) #[v]
   ⟨hx _,trivial⟩ ⟨?_,?_⟩ (fun _ h=>h.1) (fun i hi=>?_)).mono ?_
 · intro y hy _
   simp only [GL,List.mem_cons,List.not_mem_nil,or_false] at hy
   rcases hy with rfl|rfl|rfl|rfl
   · exact ⟨0,1,rfl,⟨rfl,cl h0,rfl,h0⟩,by simp,lt h0⟩
   · exact ⟨1,1,rfl,⟨rfl,cl h1,rfl,h1⟩,by simp,lt h1⟩
   · exact ⟨7,1,rfl,⟨rfl,cl h7,p7,h7⟩,by simp,lt h7⟩
   · exact ⟨8,1,rfl,⟨rfl,cl h8,p8,h8⟩,by simp,lt h8⟩
 · simp [GL]
   refine ⟨⟨?_,?_,?_⟩,⟨?_,?_⟩,?_⟩<;>(intros;omega)
 · have a0:¬ i=0:=by omega
   have a1:¬ i=1:=by omega
   have a2:¬ i=2:=by omega
   have a3:¬ i=3:=by omega
   simp only [a0,a1,a2,a3,if_false]
 · rintro e W' ⟨_,y,A',ρ',_,rfl,hv,hH,hos,htp,hou,hsz,hold,_⟩
   obtain ⟨rfl,_⟩:=hv
   refine ⟨rfl,⟨hos,htp,hou,hsz,fun k hk=>?_⟩⟩
   by_cases hb:k=0 ∨ k=1 ∨ k=7 ∨ k=8
   · obtain ⟨_,_,_,⟨e0,_,_,g0⟩,_⟩:=hH.objs (0,.glob 0 (.int .i64 m)) (by simp [GL]) trivial
     obtain ⟨_,_,_,⟨e1,_,_,g1⟩,_⟩:=hH.objs (1,.glob 1 (.iface 268 (.pointer (some ad)))) (by simp [GL]) trivial
     obtain ⟨_,_,_,⟨e7',_,_,g7⟩,_⟩:=hH.objs (2,.glob 7 e7) (by simp [GL]) trivial
     obtain ⟨_,_,_,⟨e8',_,_,g8⟩,_⟩:=hH.objs (3,.glob 8 e8) (by simp [GL]) trivial
     rcases hb with rfl|rfl|rfl|rfl
     · rw [h0];exact g0
     · rw [h1];exact g1
     · rw [h7];exact g7
     · rw [h8];exact g8
   · refine hold k hk fun ⟨y,hy,_,m',hm⟩=>hb ?_
     simp only [GL,List.mem_cons,List.not_mem_nil,or_false] at hy
     rcases hy with rfl|rfl|rfl|rfl<;>simp at hm<;>omega
theorem var_of_heap {P:Program} {W:World} {n:String} {g:Nat} {cs:Array Value} {t:TypeId} {fr:Nat × Nat} (hg:P.globalNamed n=some g) (h:W.heap[g]? = some (.cells cs t fr)):W.var? P n=some cs:=by
 unfold World.var?;rw [hg,Option.bind_some,h]
theorem star: "*" ++ "errors.errorString" = "*errors.errorString":=by decide
theorem rowErr (u:TypeId) (h:Tryz.prog.typeName? 3 u=some "*errors.errorString"):u=268 :=
 typeName_ptr_named (nm:= "errors.errorString") (by rw [star];kernel_rfl) (by kernel_rfl) (by decide) u (by rw [star];exact h)
theorem cells270:Tryz.prog.cellsOf 270=1:=by kernel_rfl
theorem cells9:Tryz.prog.cellsOf 9=1:=by kernel_rfl
theorem sentinel_of {W:World} {l:List (String × DataW Unit)} (hL:laidMet Tryz.prog l W) (hsh:W.ShapedOpen Tryz.prog) {n:String} {g:Nat} {text:List UInt8} {zero:Array Value}
   (hm:(n,.iface "*errors.errorString" (.ptr (.agg [.lit (.string text)]))) ∈ l) (hg:Tryz.prog.globalNamed n=some g) (ht:(Tryz.prog.globals[g]?).map (·.type)=some 66) (hlt:g < Tryz.prog.globals.size)
   (hz:((begin Tryz.prog (fun _ _=>0) default).world.heap[g]?).bind Obj.row? = some (zero,66)) :
   ∃ ad,W.var? Tryz.prog n=some #[.iface 268 (.pointer (some ad))]∧W.heap[g]? = some (.cells #[.iface 268 (.pointer (some ad))] 66 (0,0)):=by
 obtain ⟨ps,hl,_,hrows⟩:=hL
 obtain ⟨g',t',cs,fuel,p,h1,h2,h3,h4,h5⟩:=laid_mem hl hm
 obtain rfl:=Option.some.inj (hg.symm.trans h1)
 obtain rfl:=Option.some.inj (ht.symm.trans h2)
 obtain ⟨l'⟩:=cs
 have ok:∀ u v,l'=[.iface u v]→Value.okWide Tryz.prog W .any 0 u v:=fun u v e=>by
   subst e
   exact (hrows g 0 (h5 _ (by simp [MemPlace.row]))).2 u v (by simpa using World.var?_cell h1 h3 0)
 obtain ⟨a,s,rfl,_,_,_,_⟩:=errorString_of_trod Tryz.underlying66 rowErr Tryz.underlying268 Tryz.underlying270 rfl rfl Tryz.underlying9 cells270 cells9 h4 ok
 exact ⟨a,h3,var_block hsh hg hlt hz h3⟩
theorem zero0:((begin Tryz.prog (fun _ _=>0) default).world.heap[0]?).bind Obj.row? = some (#[.int .i64 0],3):=by kernel_rfl
theorem zero1:((begin Tryz.prog (fun _ _=>0) default).world.heap[1]?).bind Obj.row? = some (#[.nilIface],66):=by kernel_rfl
theorem zero7:((begin Tryz.prog (fun _ _=>0) default).world.heap[7]?).bind Obj.row? = some (#[.nilIface],66):=by kernel_rfl
theorem zero8:((begin Tryz.prog (fun _ _=>0) default).world.heap[8]?).bind Obj.row? = some (#[.nilIface],66):=by kernel_rfl
theorem glob9:8 < Tryz.prog.globals.size:=by decide +kernel
theorem build3:Tryz.prog.buildable 3=true:=by kernel_rfl
theorem types3:Tryz.prog.cellTypes Tryz.prog.depth 3=some [3]:=by kernel_rfl
theorem maxLen_of {W:World} (hsh:W.ShapedOpen Tryz.prog):∃ m,W.heap[0]? = some (.cells #[.int .i64 m] 3 (0,0)):=by
 obtain ⟨cs,h1,h2,h3⟩:=hsh.1 0 _ 3 (Nat.lt_trans (by decide) glob9) zero0
 obtain ⟨ts,e1,_,e3⟩:=h3 build3
 obtain rfl:=Option.some.inj (types3.symm.trans e1)
 obtain ⟨l⟩:=cs
 match l,h2 with
 | [v],_ =>
   obtain ⟨u,hu,hok⟩:=e3 0 v rfl
   obtain rfl:u=3:=by simpa using hu.symm
   unfold Cell.ok at hok
   rw [Tryz.underlying3] at hok
   cases v<;>simp only at hok
   obtain ⟨rfl,_⟩:=hok
   exact ⟨_,h1⟩
theorem named0:Tryz.prog.globalNamed "loop.example/hawser/impl.errPacketText" =some 1:=by kernel_rfl
theorem named7:Tryz.prog.globalNamed "strconv.ErrSyntax" =some 7:=by kernel_rfl
theorem named8:Tryz.prog.globalNamed "strconv.ErrRange" =some 8:=by kernel_rfl
theorem typeOf1:(Tryz.prog.globals[1]?).map (·.type)=some 66:=by kernel_rfl
theorem typeOf7:(Tryz.prog.globals[7]?).map (·.type)=some 66:=by kernel_rfl
theorem typeOf8:(Tryz.prog.globals[8]?).map (·.type)=some 66:=by kernel_rfl
theorem vars_read {H:Type} (enc:TypeId × Value→H) {W:World} {x:Value} (h:W.var? Tryz.prog "loop.example/hawser/impl.errPacketText" =some #[x]) (i:IsIface x) (sp:Nat→Bool) :
   DataW.TrodVars enc Tryz.prog W sp ["loop.example/hawser/impl.errPacketText"] [tok enc x] [.cell 1 0] :=
 ⟨1,66,#[x],1,[],[],named0,typeOf1,h,trod_held Tryz.underlying66 i 0,rfl,rfl⟩
abbrev laidAllL:List (String × DataW Unit):=Rows.fnExactLinesRunRow.laid
theorem laid_shaped (os:Os) (args:Array Value):((World.laidAll Tryz.prog os laidAllL).forCall (fun _ _=>0) ⟨#[],args,[]⟩).Shaped Tryz.prog:=World.shaped_of_ZipB (by kernel_rfl) (by kernel_rfl)
theorem laid_met (os:Os) (args:Array Value):laidMetH Tryz.prog laidAllL ((World.laidAll Tryz.prog os laidAllL).forCall (fun _ _=>0) ⟨#[],args,[]⟩).memory:=by
 rw [MakeChecks.laidMetH_plain _ _ _ (by kernel_rfl)];exact laidMet_laidAll _ (by kernel_rfl) (by kernel_rfl)
theorem blocks_of {W:World} (hL:laidMetH Tryz.prog laidAllL W) (hsh:W.ShapedOpen Tryz.prog):∃ m ad a7 a8,W.var? Tryz.prog "loop.example/hawser/impl.errPacketText" =some #[.iface 268 (.pointer (some ad))] ∧
   W.heap[0]? = some (.cells #[.int .i64 m] 3 (0,0))∧W.heap[1]? = some (.cells #[.iface 268 (.pointer (some ad))] 66 (0,0)) ∧
   W.heap[7]? = some (.cells #[.iface 268 (.pointer (some a7))] 66 (0,0))∧W.heap[8]? = some (.cells #[.iface 268 (.pointer (some a8))] 66 (0,0)):=by
 rw [MakeChecks.laidMetH_plain _ _ _ (by kernel_rfl)] at hL
 obtain ⟨m,h0⟩:=maxLen_of hsh
 obtain ⟨ad,v1,h1⟩:=sentinel_of hL hsh (n:= "loop.example/hawser/impl.errPacketText") (text:=[109,97,108,102,111,114,109,101,100,32,112,97,99,107,101,116]) (by simp [laidAllL,Rows.fnExactLinesRunRow,Rows.laid_loop_example_hawser_impl_errPacketText]) named0 typeOf1 (Nat.lt_trans (by decide) glob9) zero1
 obtain ⟨a7,_,h7⟩:=sentinel_of hL hsh (n:= "strconv.ErrSyntax") (text:=[105,110,118,97,108,105,100,32,115,121,110,116,97,120]) (by simp [laidAllL,Rows.fnExactLinesRunRow,Rows.laid_strconv_ErrSyntax]) named7 typeOf7 (Nat.lt_trans (by decide) glob9) zero7
 obtain ⟨a8,_,h8⟩:=sentinel_of hL hsh (n:= "strconv.ErrRange") (text:=[118,97,108,117,101,32,111,117,116,32,111,102,32,114,97,110,103,101]) (by simp [laidAllL,Rows.fnExactLinesRunRow,Rows.laid_strconv_ErrRange]) named8 typeOf8 glob9 zero8
 exact ⟨m,ad,a7,a8,v1,h0,h1,h7,h8⟩
end Go.Proofs.YtbdfdbkbmegcgaaGreatDoor
