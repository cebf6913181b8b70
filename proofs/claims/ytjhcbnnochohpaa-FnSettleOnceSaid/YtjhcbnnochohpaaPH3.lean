/- What is proved here: parts of the walk of the law and of its plain side; no condition but those that each theorem states. -/
import Derived.Test.YtjhcbnnochohpaaPH2
import Derived.OrdersHeld
set_option linter.all false
set_option maxRecDepth 100000
set_option maxHeartbeats 16000000
namespace Go.Hw
def quietK:Op→Bool
 | .move _=>true
 | .assign _=>true
 | .pick _ _ _=>true
 | .load _ _=>true
 | .binOp op _ _ _ _=>match op with
   | .xor=>false
   | _=>true
 | .nilCheck _=>true
 | .unOp _ _ _=>true
 | .convert _ _ _=>true
 | .fieldAddr _ _ _=>true
 | .field _ _ _=>true
 | .indexAddr _ _ _=>true
 | .extract _ _=>true
 | .call ⟨.builtin .len,_,_⟩=>true
 | _=>false
def isCv:Op→Bool
 | .convert _ _ _=>true
 | _=>false
def cvS:AV→Bool
 | .o (.c (.t (.v (.string _))))=>true
 | _=>false
def cvOk:Bool→AV→Prop
 | true,v=>cvS v=false
 | false,_=>True
def loadK:Op→Bool
 | .load _ _=>true
 | _=>false
theorem load_stable {P:Program} {b o:Nat} {y:Value} {w w1 w':World} (hv:∀ u v,w.heap[b]? ≠ some (.view u v)) (hb:w'.heap[b]? = w.heap[b]?) (h:(load ⟨b,o,none⟩).run P w=.ok y w1):w1=w∧(load ⟨b,o,none⟩).run P w'=.ok y w':=by
 rw [run_load] at *
 rw [cell?_of_heap hb]
 cases hc:w.cell? ⟨b,o,none⟩ with
 | none =>
   rw [hc] at h
   dsimp only at h
   have hf:∀ x,∃ e,World.farLoad P w ⟨b,o,none⟩ x=.error e:=by
     intro x
     unfold World.farLoad
     split
     · rename_i u v he;exact absurd he (hv u v)
     · exact ⟨_,rfl⟩
   obtain ⟨e,he⟩:=hf (Mode.plain == Mode.atomic)
   rw [he] at h;cases h
 | some v =>
   rw [hc] at h
   simp at h
   obtain ⟨rfl,rfl⟩:=h
   simp
theorem loadCells_stable {P:Program} {b o:Nat} {w w':World} (hv:∀ u v,w.heap[b]? ≠ some (.view u v)) (hb:w'.heap[b]? = w.heap[b]?):∀ {n i:Nat} {acc y:Array Value} {w1:World},(loadCellsFrom ⟨b,o,none⟩ i n acc).run P w=.ok y w1→w1=w∧(loadCellsFrom ⟨b,o,none⟩ i n acc).run P w'=.ok y w'
 | 0,i,acc,y,w1,h=>by
   simp [loadCellsFrom] at h ⊢
   exact ⟨h.2.symm,h.1⟩
 | n + 1,i,acc,y,w1,h=>by
   simp only [loadCellsFrom,Sem.run_bind,add_lit] at h ⊢
   cases hl:(load ⟨b,o+i,none⟩).run P w with
   | halt x w2=>rw [hl] at h;simp [Result.andThen] at h
   | ok v w2 =>
     obtain ⟨rfl,h2⟩:=load_stable hv hb hl
     rw [hl] at h
     rw [h2]
     simp only [Result.andThen_ok] at h ⊢
     exact loadCells_stable hv hb h
theorem loadAt_stable {P:Program} {t:Nat} {x:TI} (ht:TFact P t x) {b o:Nat} {y:Value} {w w1 w':World} (hv:∀ u v,w.heap[b]? ≠ some (.view u v)) (hb:w'.heap[b]? = w.heap[b]?)
   (h:(Instr.loadAt t (.pointer (some ⟨b,o,none⟩))).run P w=.ok y w1):(Instr.loadAt t (.pointer (some ⟨b,o,none⟩))).run P w'=.ok y w':=by
 have hag:=run_agg ht
 have hsz:=run_size ht
 simp only [Instr.loadAt,Instr.sureAddr,loadVar,Sem.run_bind,Sem.run_pure,Result.andThen_ok,hag] at h ⊢
 cases hx:x.agg with
 | true =>
   simp only [hx,if_true,Sem.run_bind,hsz,Result.andThen_ok,loadCells] at h ⊢
   cases hl:(loadCellsFrom ⟨b,o,none⟩ 0 x.size #[]).run P w with
   | halt x w2=>rw [hl] at h;simp [Result.andThen] at h
   | ok v w2 =>
     obtain ⟨rfl,h2⟩:=loadCells_stable hv hb hl
     rw [hl] at h
     rw [h2]
     simp only [Result.andThen_ok,Sem.run_pure] at h ⊢
     injection h with h _;rw [h]
 | false =>
   simp only [hx,Bool.false_eq_true,if_false] at h ⊢
   exact (load_stable hv hb h).2
theorem q_v {P:Program} {a:Act} {o:Oper} {w:World} {y:Value} {m:Sem Value} (h:execOp a.eval o=(do pure (.value (← m)))) (hm:m.run P w=.ok y w):(execOp a.eval o).run P w=.ok (.value y) w:=by
 rw [h];simp [hm]
theorem aop_quiet {ti:Nat→Option TI} {s:St} {o:Op} (h:quietK o=true) (hc:isCv o=false):aop ti s o=aopA ti s o:=by
 have hb:aopB ti s o=none:=by
   cases o with
   | binOp op _ _ _ _=>cases op<;>first|rfl|cases h
   | call c =>
     obtain ⟨cal,args,tys⟩:=c
     cases cal with
     | builtin b=>cases b<;>first|rfl|cases h
     | _=>cases h
   | convert _ _ _=>cases hc
   | _=>first|rfl|cases h
 unfold aop;rw [hb]
set_option maxHeartbeats 1000000 in
theorem quiet_sound {P:Program} {ti:Nat→Option TI} (hT:TOk P ti) {c:Ctx} {s:St} {a:Act} {w:World} {A:Nat→Prop} {ρ:Rho} (hr:Rep c s a w A ρ) {o:Oper} {p:Prop} {v:AV} {h':Heap} {nx':Nat}
   (he:aop ti s o.op=some (p,v,h',nx')) (hp:p) (hq:quietK o.op=true) :
   h'=s.h∧nx'=s.nx∧∃ y,v.At w A ρ y∧∀ w1:World,((loadK o.op=true ∨ (isCv o.op=true∧cvS v=true))→∀ b,(A b ∨ blkOf ρ s.h b)→w1.heap[b]? = w.heap[b]?)→(execOp a.eval o).run P w1=.ok (.value y) w1:=by
 obtain ⟨dst,op,ty,pos,aft,grd⟩:=o
 dsimp only at he hq ⊢
 by_cases hcv0:isCv op=true
 · cases op<;>simp only [isCv,Bool.false_eq_true] at hcv0
   rename_i src dst' x
   unfold aop at he
   split at he
   · rename_i q hB
     injection he with he;subst he
     simp only [aopB] at hB
     split at hB
     · rename_i ta tb q hta htb hx
       split at hB
       · rename_i e h o hk1 hk2
         split at hB
         · rename_i te m f hte hl
           split at hB
           · rename_i n hk3 hf
             simp only [Option.some.injEq,Prod.mk.injEq] at hB;obtain ⟨rfl,rfl,rfl,rfl⟩:=hB
             obtain ⟨b,cap,h1,hcell,hbk⟩:=cnv_at hr.heap hl hp hf (evO_sound hr hx)
             refine ⟨rfl,rfl,.string ⟨#[UInt8.ofNat n.toNat]⟩,⟨rfl,rfl⟩,fun w1 hw1=>q_v (m:=convert src dst' (a.eval x)) rfl ?_⟩
             rw [h1]
             refine cnv_run hT hta htb hte hk1 hk2 hk3 ?_
             rw [cell?_of_heap (hw1 (.inr ⟨rfl,rfl⟩) b (.inr hbk))];exact hcell
           · cases hB
         · cases hB
       · cases hB
     · cases hB
   · simp only [aopA] at he
     split at he
     · rename_i ta tb k n hta htb hu
       split at he
       · rename_i k1 k2 hk1 hk2
         simp only [Option.some.injEq,Prod.mk.injEq] at he;obtain ⟨rfl,rfl,rfl,rfl⟩:=he
         have h1:a.eval x=.int k n:=(evO_sound hr hu).1
         obtain ⟨d1,hd1,hu1⟩:=run_undA (hT _ _ hta)
         obtain ⟨d2,hd2,hu2⟩:=run_undA (hT _ _ htb)
         rw [hk1] at hd1;rw [hk2] at hd2
         cases d1<;>simp only [kindOf,reduceCtorEq] at hd1
         cases d2<;>simp only [kindOf,reduceCtorEq] at hd2
         injection hd2 with hd2;subst hd2
         exact ⟨rfl,rfl,.int _ n,⟨rfl,rfl⟩,fun w1 _=>q_v (m:=convert src dst' (a.eval x)) rfl (by simp [h1,convert,hu1,hu2,Conv.intToInt,wrap_fits hp])⟩
       · cases he
     · cases he
 have hcv:isCv op=false:=by cases h:isCv op with|false=>rfl|true=>exact absurd h hcv0
 clear hcv0
 rw [aop_quiet hq hcv] at he
 cases op with
 | nilCheck x =>
   simp only [aopA] at he
   split at he
   · rename_i u hu
     split at he
     · rename_i hn
       simp only [Option.some.injEq,Prod.mk.injEq] at he;obtain ⟨rfl,rfl,rfl,rfl⟩:=he
       have h1:u.At w A ρ (a.eval x):=evO_sound hr hu
       refine ⟨rfl,rfl,a.eval x,h1,fun _ _=>?_⟩
       unfold nilOk at hn
       split at hn
       · obtain ⟨b,m,_,e⟩:=h1;simp [execOp,e]
       · obtain ⟨b,m,e,_⟩:=h1;simp [execOp,e]
       · obtain ⟨b,m,e,_⟩:=h1;simp [execOp,e]
       · obtain ⟨b,m,_,e⟩:=h1;cases ‹Bool›<;>simp [execOp,e]
       · obtain ⟨e,_⟩:=h1;simp [execOp,e]
       · cases hn
     · cases he
   · cases he
 | move x =>
   simp only [aopA] at he
   split at he
   · rename_i u hu
     simp only [Option.some.injEq,Prod.mk.injEq] at he;obtain ⟨rfl,rfl,rfl,rfl⟩:=he
     exact ⟨rfl,rfl,a.eval x,evO_sound hr hu,fun _ _=>rfl⟩
   · cases he
 | assign x =>
   simp only [aopA] at he
   split at he
   · rename_i u hu
     simp only [Option.some.injEq,Prod.mk.injEq] at he;obtain ⟨rfl,rfl,rfl,rfl⟩:=he
     exact ⟨rfl,rfl,a.eval x,evO_sound hr hu,fun _ _=>rfl⟩
   · cases he
 | pick cc x y =>
   simp only [aopA] at he
   split at he
   · rename_i q u v' hc hu hv
     simp only [Option.some.injEq,Prod.mk.injEq] at he;obtain ⟨rfl,rfl,rfl,rfl⟩:=he
     have h1:a.eval cc=.bool q:=(evO_sound hr hc).1
     refine ⟨rfl,rfl,if q=true then a.eval x else a.eval y,?_,fun _ _=>?_⟩
     · cases q<;>simp
       · exact evO_sound hr hv
       · exact evO_sound hr hu
     · simp [execOp,h1,asBool]
   · cases he
 | load t x =>
   simp only [aopA] at he
   split at he
   · rename_i tx u htx hu
     split at he
     · rename_i q v' hl
       simp only [Option.some.injEq,Prod.mk.injEq] at he;obtain ⟨rfl,rfl,rfl,rfl⟩:=he
       have h1:u.At w A ρ (a.eval x):=evO_sound hr hu
       obtain ⟨y,hy1,hy2⟩:=loadA_sound (hT _ _ htx) hr.heap h1 hl hp
       refine ⟨rfl,rfl,y,hy2,fun w1 hw1=>q_v (m:=Instr.loadAt t (a.eval x)) rfl ?_⟩
       have hw1:=hw1 (.inl rfl)
       unfold loadA at hl
       split at hl
       · rename_i k wd i j
         obtain ⟨b,m,hk,e⟩:=h1
         rw [e] at hy1 ⊢
         have key:∀ x,(k,x) ∈ s.h→x.real→(∀ o,x ≠ .raw o)→(Instr.loadAt t (.pointer (some ⟨b,i * wd+j,none⟩))).run P w1=.ok y w1:=by
           intro x hx hxr hraw
           obtain ⟨b',m',e1,e2,_⟩:=hr.heap.objs _ hx hxr
           rw [hk] at e1;injection e1 with e1;injection e1 with e1 e3;subst e1
           refine loadAt_stable (hT _ _ htx) ?_ (hw1 b (.inr ⟨_,hx,hxr,m,hk⟩)) hy1
           intro u v hc
           cases x with
           | box l=>obtain ⟨cs,e,h1,_⟩:=e2;rw [h1] at hc;cases hc
           | row _ _ _=>obtain ⟨cs,e,h1,_⟩:=e2;rw [h1] at hc;cases hc
           | raw o=>exact hraw o rfl
           | glob g v=>obtain ⟨rfl,h1,_⟩:=e2;simp [World.cell?,hc] at h1
           | tbx e l=>obtain ⟨cs,h1,_⟩:=e2;rw [h1] at hc;cases hc
         split at hl
         · rename_i l hl2
           exact key _ (look_mem hl2) trivial (fun o h=>by cases h)
         · rename_i wd' n f hl2
           cases hb:(Nat.beq wd wd' && Nat.ble (j+tx.size) wd && Nat.ble 1 tx.size) with
           | false=>simp [hb] at hl
           | true =>
             simp only [hb,cond_true,Option.some.injEq,Prod.mk.injEq] at hl
             obtain ⟨rfl,_⟩:=hl
             exact key _ (look_mem hl2) (by show n ≠ 0;omega) (fun o h=>by cases h)
         · rename_i e l hl2
           exact key _ (look_mem hl2) trivial (fun o h=>by cases h)
         · cases hl
       · rename_i wd f j
         obtain ⟨b,q,e,hA,hall⟩:=h1
         rw [e] at hy1 ⊢
         refine loadAt_stable (hT _ _ htx) ?_ (hw1 b (.inl hA)) hy1
         have h0:0 < wd:=by
           cases hb:(Nat.ble (j+tx.size) wd && Nat.ble 1 tx.size) with
           | false=>simp [hb] at hl
           | true=>simp only [Bool.and_eq_true,Nat.ble_eq] at hb;omega
         obtain ⟨z,hz,_⟩:=hall 0 h0
         intro u v hc
         simp [World.cell?,hc] at hz
       · rename_i wd f
         obtain ⟨b,q,e,hA,hall⟩:=h1
         rw [e] at hy1 ⊢
         refine loadAt_stable (hT _ _ htx) ?_ (hw1 b (.inl hA)) hy1
         have h0:0 < wd:=by
           cases hb:(Nat.ble tx.size wd && Nat.ble 1 tx.size) with
           | false=>simp [hb] at hl
           | true=>simp only [Bool.and_eq_true,Nat.ble_eq] at hb;omega
         obtain ⟨z,hz,_⟩:=hall 0 h0
         intro u v hc
         simp [World.cell?,hc] at hz
       · obtain ⟨e,_⟩:=h1
         obtain ⟨g,v,e2,_,_,_,h3,k,hk⟩:=globL_sound (hT _ _ htx) hr.heap hl
         rw [e,e2] at hy1 ⊢
         obtain ⟨b,m,hk1,⟨rfl,_⟩,_⟩:=hr.heap.objs _ hk trivial
         refine loadAt_stable (hT _ _ htx) ?_ (hw1 b (.inr ⟨_,hk,trivial,m,hk1⟩)) hy1
         intro u v hc
         simp [World.cell?,hc] at h3
       · cases hl
     · cases he
   · cases he
 | binOp op t x y yt =>
   simp only [aopA] at he
   split at he
   · rename_i u v' hu hv
     split at he
     · rename_i q r hl
       simp only [Option.some.injEq,Prod.mk.injEq] at he;obtain ⟨rfl,rfl,rfl,rfl⟩:=he
       have h1:u.At w A ρ (a.eval x):=evO_sound hr hu
       have h2:v'.At w A ρ (a.eval y):=evO_sound hr hv
       obtain ⟨hy1,hy2⟩:=cmpA_sound hT (x:=x) (y:=y) h1 h2 hl hp
       exact ⟨rfl,rfl,r,⟨rfl,hy2⟩,fun w1 _=>q_v (m:=do eqGuard op t x y (a.eval x) (a.eval y);binOp op t (a.eval x) (a.eval y)) rfl (hy1 w1)⟩
     · cases he
   · cases he
 | unOp op t x =>
   cases op with
   | not =>
     simp only [aopA] at he
     split at he
     · rename_i q hu
       simp only [Option.some.injEq,Prod.mk.injEq] at he;obtain ⟨rfl,rfl,rfl,rfl⟩:=he
       have h1:a.eval x=.bool q:=(evO_sound hr hu).1
       exact ⟨rfl,rfl,.bool (!q),⟨rfl,rfl⟩,fun w1 _=>q_v (m:=Op.unary .not (a.eval x)) rfl (by simp [h1,Op.unary])⟩
     · cases he
   | neg =>
     simp only [aopA] at he
     split at he
     · rename_i k n hu
       simp only [Option.some.injEq,Prod.mk.injEq] at he;obtain ⟨rfl,rfl,rfl,rfl⟩:=he
       have h1:a.eval x=.int k n:=(evO_sound hr hu).1
       have h0:k.wrap (0 - n) = -n:=by rw [Int.zero_sub];exact wrap_fits hp
       exact ⟨rfl,rfl,.int k (-n),⟨rfl,rfl⟩,fun w1 _=>q_v (m:=Op.unary .neg (a.eval x)) rfl (by simp [h1,Op.unary,Op.intArith];simpa using h0)⟩
     · cases he
   | _=>simp only [aopA] at he;cases he
 | convert src dst' x=>cases hcv
 | fieldAddr t x f =>
   simp only [aopA] at he
   split at he
   · rename_i u hu
     split at he
     · rename_i r hl
       simp only [Option.some.injEq,Prod.mk.injEq] at he;obtain ⟨rfl,rfl,rfl,rfl⟩:=he
       have h1:u.At w A ρ (a.eval x):=evO_sound hr hu
       obtain ⟨y,hy1,hy2⟩:=fieldA_sound hT h1 hl
       exact ⟨rfl,rfl,y,hy2,fun w1 _=>q_v (m:=Instr.fieldAt t (a.eval x) f) rfl (hy1 w1)⟩
     · cases he
   · cases he
 | field t x f =>
   simp only [aopA] at he
   split at he
   · rename_i u hu
     split at he
     · rename_i r hl
       simp only [Option.some.injEq,Prod.mk.injEq] at he;obtain ⟨rfl,rfl,rfl,rfl⟩:=he
       have h1:u.At w A ρ (a.eval x):=evO_sound hr hu
       obtain ⟨y,hy1,hy2⟩:=fldA_sound hT h1 hl
       exact ⟨rfl,rfl,y,hy2,fun w1 _=>q_v (m:=Instr.field t (a.eval x) f) rfl (hy1 w1)⟩
     · cases he
   · cases he
 | indexAddr t x i =>
   simp only [aopA] at he
   split at he
   · rename_i u v' hu hv
     split at he
     · rename_i q r hl
       simp only [Option.some.injEq,Prod.mk.injEq] at he;obtain ⟨rfl,rfl,rfl,rfl⟩:=he
       have h1:u.At w A ρ (a.eval x):=evO_sound hr hu
       have h2:v'.At w A ρ (a.eval i):=evO_sound hr hv
       obtain ⟨y,hy1,hy2⟩:=indexA_sound hT h1 h2 hl hp
       exact ⟨rfl,rfl,y,hy2,fun w1 _=>q_v (m:=Instr.indexAt t (a.eval x) (a.eval i)) rfl (hy1 w1)⟩
     · cases he
   · cases he
 | extract x i =>
   simp only [aopA] at he
   split at he
   · rename_i l hu
     split at he
     · rename_i v' hl
       simp only [Option.some.injEq,Prod.mk.injEq] at he;obtain ⟨rfl,rfl,rfl,rfl⟩:=he
       obtain ⟨vs,e,hall⟩:=evO_sound hr hu
       obtain ⟨z,hz1,hz2⟩:=All2.get hall hl
       have hz1':vs[i]? = some z:=by simpa using hz1
       exact ⟨rfl,rfl,z,hz2,fun w1 _=>q_v (m:=Instr.extract (a.eval x) i) rfl (by simp [e,Instr.extract,hz1'])⟩
     · cases he
   · cases he
 | call cl =>
   obtain ⟨cal,⟨args⟩,⟨tys⟩⟩:=cl
   unfold aopA at he
   split at he<;>(try (cases he;done))<;>rename_i hop<;>(try (cases hop;done))
   · simp only [Op.call.injEq,Call.mk.injEq,Callee.builtin.injEq,Array.mk.injEq] at hop
     obtain ⟨rfl,rfl,rfl⟩:=hop
     rename_i x t
     split at he
     · rename_i u hu
       split at he
       · rename_i r hl
         simp only [Option.some.injEq,Prod.mk.injEq] at he;obtain ⟨rfl,rfl,rfl,rfl⟩:=he
         have h1:u.At w A ρ (a.eval x):=evO_sound hr hu
         obtain ⟨hy1,hy2⟩:=lenA_sound (P:=P) hT h1 hl ty
         refine ⟨rfl,rfl,r,⟨rfl,hy2⟩,fun w1 _=>?_⟩
         simp [execOp,resolve,invoke,builtin,hy1]
       · cases he
     · cases he
   · simp only [Op.call.injEq,Call.mk.injEq,Callee.builtin.injEq,Array.mk.injEq] at hop
     obtain ⟨rfl,rfl,rfl⟩:=hop
     simp [quietK] at hq
   · simp only [Op.call.injEq,Call.mk.injEq,Callee.builtin.injEq,Array.mk.injEq] at hop
     obtain ⟨rfl,rfl,rfl⟩:=hop
     simp [quietK] at hq
 | _=>simp [quietK] at hq
end Go.Hw
namespace Go.Hw
mutual
inductive Plan where
 | done
 | tak (i:Nat) (r:Plan)
 | all (b:Br)
inductive Br where
 | nil
 | cons (i:Nat) (p:Plan) (b:Br)
end
def Br.idx:Br→List Nat
 | .nil=>[]
 | .cons i _ b=>i ::b.idx
mutual
def okP (ops:Array Oper):Nat→Array Bool→Plan→Bool
 | _,l,.done=>(Region.ready .any ops l).isEmpty
 | f+1,l,.tak i r=>(match ops[i]? with
   | some o=>quietK o.op
   | none=>false) && Region.free .any ops l i && (Region.ready .any ops l).contains i && okP ops f (l.setIfInBounds i true) r
 | f+1,l,.all b=>!(Region.ready .any ops l).isEmpty && decide (Region.ready .any ops l=b.idx) && okB ops f l b
 | 0,_,_=>false
def okB (ops:Array Oper):Nat→Array Bool→Br→Bool
 | _,_,.nil=>true
 | f,l,.cons i p b=>okP ops f (l.setIfInBounds i true) p && okB ops f l b
end
def clrL (d:Nat):List (Nat × AV)→List (Nat × AV)
 | []=>[]
 | (j,v) ::r=>bif Nat.beq j d then clrL d r else (j,v) ::clrL d r
def clr (d:Option Nat) (t:List (Nat × AV)):List (Nat × AV):=match d with
 | some d=>clrL d t
 | none=>t
theorem look_clrL {k d:Nat} {v:AV}:∀ {l:List (Nat × AV)},look k (clrL d l)=some v→k ≠ d∧look k l=some v
 | [],h=>by simp [clrL,look] at h
 | (j, u) ::r,h=>by
   cases e:Nat.beq j d with
   | true =>
     simp only [clrL,e,cond_true] at h
     obtain ⟨h1,h2⟩:=look_clrL h
     have e:=Nat.eq_of_beq_eq_true e
     refine ⟨h1,?_⟩
     have:Nat.beq j k=false:=by
       cases e2:Nat.beq j k with
       | false=>rfl
       | true=>exact absurd (Nat.eq_of_beq_eq_true e2).symm (by omega)
     simp only [look,this,cond_false];exact h2
   | false =>
     simp only [clrL,e,cond_false,look] at h ⊢
     cases e2:Nat.beq j k with
     | true =>
       rw [e2] at h
       have:=Nat.eq_of_beq_eq_true e2
       subst this
       refine ⟨?_,h⟩
       intro e3;subst e3;simp at e
     | false=>rw [e2] at h;exact look_clrL h
def keepL (t:List (Nat × AV)):List Nat→List (Nat × AV)
 | []=>[]
 | k ::r=>match look k t with
   | some v=>(k,v) ::keepL t r
   | none=>keepL t r
def memN (k:Nat):List Nat→Bool
 | []=>false
 | j ::r=>bif Nat.beq j k then true else memN k r
def pickH (ro:List Nat):Heap→Heap
 | []=>[]
 | (k,o) ::r=>bif memN k ro then (k,o) ::pickH ro r else pickH ro r
def dropH (ro:List Nat):Heap→Heap
 | []=>[]
 | (k,o) ::r=>bif memN k ro then dropH ro r else (k,o) ::dropH ro r
def putL (d:Option Nat) (v:AV) (t:List (Nat × AV)):List (Nat × AV):=match d with
 | some d=>(d,v) ::t
 | none=>t
mutual
def runP (P:Program) (ti:Nat→Option TI) (ops:List Oper) (hr:Heap) (n0:Nat):Plan→List (Nat × AV)→St→(St→Prop)→Prop
 | .done,_,s,K=>K s
 | .tak i r,to,s,K=>takI P ti ops hr n0 r to s K ops[i]?
 | .all b,to,s,K=>runB P ti ops hr n0 b to s K
termination_by p=>(SizeOf.sizeOf p,0)
def takI (P:Program) (ti:Nat→Option TI) (ops:List Oper) (hr:Heap) (n0:Nat) (r:Plan) (to:List (Nat × AV)) (s:St) (K:St→Prop):Option Oper→Prop
 | some o=>takG P ti ops hr n0 o r to s K (wantA ops s o.guard)
 | none=>False
termination_by (SizeOf.sizeOf r,4)
def takG (P:Program) (ti:Nat→Option TI) (ops:List Oper) (hr:Heap) (n0:Nat) (o:Oper) (r:Plan) (to:List (Nat × AV)) (s:St) (K:St→Prop):Option (Bool × Bool)→Prop
 | some (b,want)=>if b=want then takO P ti ops hr n0 o r to s K (aop ti ⟨to,hr,n0⟩ o.op) else runP P ti ops hr n0 r (clr o.dst to) (s.put o.dst (.tup [])) K
 | none=>False
termination_by (SizeOf.sizeOf r,3)
def takO (P:Program) (ti:Nat→Option TI) (ops:List Oper) (hr:Heap) (n0:Nat) (o:Oper) (r:Plan) (to:List (Nat × AV)) (s:St) (K:St→Prop):Option (Prop × AV × Heap × Nat)→Prop
 | some (p,v,_,_)=>p∧runP P ti ops hr n0 r (putL o.dst v to) (s.put o.dst v) K
 | none=>takW P ti ops hr n0 o r to s K (loadK o.op) (aop ti s o.op)
termination_by (SizeOf.sizeOf r,2)
def takW (P:Program) (ti:Nat→Option TI) (ops:List Oper) (hr:Heap) (n0:Nat) (o:Oper) (r:Plan) (to:List (Nat × AV)) (s:St) (K:St→Prop):Bool→Option (Prop × AV × Heap × Nat)→Prop
 | false,some (p,v,_,_)=>p∧cvOk (isCv o.op) v∧runP P ti ops hr n0 r (clr o.dst to) (s.put o.dst v) K
 | _,_=>False
termination_by (SizeOf.sizeOf r,1)
def runB (P:Program) (ti:Nat→Option TI) (ops:List Oper) (hr:Heap) (n0:Nat):Br→List (Nat × AV)→St→(St→Prop)→Prop
 | .nil,_,_,_=>True
 | .cons i p b,to,s,K=>effI P ti ops hr n0 p to s K ops[i]?∧runB P ti ops hr n0 b to s K
termination_by b=>(SizeOf.sizeOf b,0)
def effI (P:Program) (ti:Nat→Option TI) (ops:List Oper) (hr:Heap) (n0:Nat) (r:Plan) (to:List (Nat × AV)) (s:St) (K:St→Prop):Option Oper→Prop
 | some o=>effG P ti ops hr n0 o r to s K (wantA ops s o.guard)
 | none=>False
termination_by (SizeOf.sizeOf r,3)
def effG (P:Program) (ti:Nat→Option TI) (ops:List Oper) (hr:Heap) (n0:Nat) (o:Oper) (r:Plan) (to:List (Nat × AV)) (s:St) (K:St→Prop):Option (Bool × Bool)→Prop
 | some (b,want)=>if b=want then effS P ti ops hr n0 o.dst r (clr o.dst to) s K (evR (callA ti s o.op) (aop ti s o.op)) else runP P ti ops hr n0 r (clr o.dst to) (s.put o.dst (.tup [])) K
 | none=>False
termination_by (SizeOf.sizeOf r,2)
def effS (P:Program) (ti:Nat→Option TI) (ops:List Oper) (hr:Heap) (n0:Nat) (dst:Option Nat) (r:Plan) (to:List (Nat × AV)) (s:St) (K:St→Prop):EvR→Prop
 | .val p v h nx=>p∧runP P ti ops hr n0 r to ({ s with h:=h,nx:=nx }.put dst v) K
 | .call f args=>ACall P f args s fun v h nx=>runP P ti ops hr n0 r to ({ s with h:=h,nx:=nx }.put dst v) K
 | .bad=>False
termination_by (SizeOf.sizeOf r,1)
end
section
variable {P:Program} {ti:Nat→Option TI} {ops:List Oper} {hr:Heap} {n0:Nat} {o:Oper} {r:Plan} {b:Br} {to:List (Nat × AV)} {s:St} {K:St→Prop} {dst:Option Nat} {i:Nat}
@[go_sem] theorem runP_done:runP P ti ops hr n0 .done to s K=K s:=by rw [runP]
@[go_sem] theorem runP_tak:runP P ti ops hr n0 (.tak i r) to s K=takI P ti ops hr n0 r to s K ops[i]?:=by rw [runP]
@[go_sem] theorem runP_all:runP P ti ops hr n0 (.all b) to s K=runB P ti ops hr n0 b to s K:=by rw [runP]
@[go_sem] theorem takI_some:takI P ti ops hr n0 r to s K (some o)=takG P ti ops hr n0 o r to s K (wantA ops s o.guard):=by rw [takI]
@[go_sem] theorem takG_tt:takG P ti ops hr n0 o r to s K (some (true,true))=takO P ti ops hr n0 o r to s K (aop ti ⟨to,hr,n0⟩ o.op):=by rw [takG];rfl
@[go_sem] theorem takG_ff:takG P ti ops hr n0 o r to s K (some (false,false))=takO P ti ops hr n0 o r to s K (aop ti ⟨to,hr,n0⟩ o.op):=by rw [takG];rfl
@[go_sem] theorem takG_tf:takG P ti ops hr n0 o r to s K (some (true,false))=runP P ti ops hr n0 r (clr o.dst to) (s.put o.dst (.tup [])) K:=by rw [takG];rfl
@[go_sem] theorem takG_ft:takG P ti ops hr n0 o r to s K (some (false,true))=runP P ti ops hr n0 r (clr o.dst to) (s.put o.dst (.tup [])) K:=by rw [takG];rfl
theorem takG_split {b want:Bool} (h1:b=want→takO P ti ops hr n0 o r to s K (aop ti ⟨to,hr,n0⟩ o.op)) (h2:b = !want→runP P ti ops hr n0 r (clr o.dst to) (s.put o.dst (.tup [])) K):takG P ti ops hr n0 o r to s K (some (b,want)):=by
 rw [takG]
 split
 · exact h1 ‹_›
 · rename_i h;exact h2 (by cases b<;>cases want<;>simp_all)
@[go_sem] theorem takO_some {p:Prop} {v:AV} {h:Heap} {nx:Nat}:takO P ti ops hr n0 o r to s K (some (p,v,h,nx))=(p∧runP P ti ops hr n0 r (putL o.dst v to) (s.put o.dst v) K):=by rw [takO]
@[go_sem] theorem takO_none:takO P ti ops hr n0 o r to s K none=takW P ti ops hr n0 o r to s K (loadK o.op) (aop ti s o.op):=by rw [takO]
@[go_sem] theorem takW_some {p:Prop} {v:AV} {h:Heap} {nx:Nat}:takW P ti ops hr n0 o r to s K false (some (p,v,h,nx))=(p∧cvOk (isCv o.op) v∧runP P ti ops hr n0 r (clr o.dst to) (s.put o.dst v) K):=by rw [takW]
@[go_sem] theorem runB_nil:runB P ti ops hr n0 .nil to s K=True:=by rw [runB]
@[go_sem] theorem runB_cons:runB P ti ops hr n0 (.cons i r b) to s K=(effI P ti ops hr n0 r to s K ops[i]?∧runB P ti ops hr n0 b to s K):=by rw [runB]
@[go_sem] theorem effI_some:effI P ti ops hr n0 r to s K (some o)=effG P ti ops hr n0 o r to s K (wantA ops s o.guard):=by rw [effI]
@[go_sem] theorem effG_tt:effG P ti ops hr n0 o r to s K (some (true,true))=effS P ti ops hr n0 o.dst r (clr o.dst to) s K (evR (callA ti s o.op) (aop ti s o.op)):=by rw [effG];rfl
@[go_sem] theorem effG_ff:effG P ti ops hr n0 o r to s K (some (false,false))=effS P ti ops hr n0 o.dst r (clr o.dst to) s K (evR (callA ti s o.op) (aop ti s o.op)):=by rw [effG];rfl
@[go_sem] theorem effG_tf:effG P ti ops hr n0 o r to s K (some (true,false))=runP P ti ops hr n0 r (clr o.dst to) (s.put o.dst (.tup [])) K:=by rw [effG];rfl
@[go_sem] theorem effG_ft:effG P ti ops hr n0 o r to s K (some (false,true))=runP P ti ops hr n0 r (clr o.dst to) (s.put o.dst (.tup [])) K:=by rw [effG];rfl
theorem effG_split {b want:Bool} (h1:b=want→effS P ti ops hr n0 o.dst r (clr o.dst to) s K (evR (callA ti s o.op) (aop ti s o.op))) (h2:b = !want→runP P ti ops hr n0 r (clr o.dst to) (s.put o.dst (.tup [])) K):effG P ti ops hr n0 o r to s K (some (b,want)):=by
 rw [effG]
 split
 · exact h1 ‹_›
 · rename_i h;exact h2 (by cases b<;>cases want<;>simp_all)
@[go_sem] theorem effS_val {p:Prop} {v:AV} {h:Heap} {nx:Nat}:effS P ti ops hr n0 dst r to s K (.val p v h nx)=(p∧runP P ti ops hr n0 r to ({ s with h:=h,nx:=nx }.put dst v) K):=by rw [effS]
theorem effS_call {f:FuncId} {args:List A1} (h:ACall P f args s fun v h nx=>runP P ti ops hr n0 r to ({ s with h:=h,nx:=nx }.put dst v) K):effS P ti ops hr n0 dst r to s K (.call f args):=by rw [effS];exact h
end
section
variable {α:Type} {P:Program} {ti:Nat→Option TI} {ops:List Oper} {hr:Heap} {n0:Nat} {r:Plan} {to:List (Nat × AV)} {rest:List Oper} {s:St} {K:St→Prop} {dst:Option Nat} {f:FuncId} {args args':List A1} {H:Heap} {p:α→Prop} {H':α→Heap} {res:α→AV} {k':Nat}
theorem effS_at (σ:List Nat) (hc:CallX P f args' H σ.length p res H' k') (ha:args=args'.map (A1.ren (rnF σ s.nx)))
   (hσ:allP (fun x=>x < s.nx) σ) (hH:hsub s.nx s.h (hren (rnF σ s.nx) H))
   (hK:∀ x,p x→runP P ti ops hr n0 r to ({ s with h:=hren (rnF σ s.nx) (H' x)++minus s.h (hren (rnF σ s.nx) H),nx:=s.nx+(k' - σ.length) }.put dst ((res x).ren (rnF σ s.nx))) K):effS P ti ops hr n0 dst r to s K (.call f args) :=
 effS_call (ACall.at σ hc ha hσ hH hK)
theorem effS_view (σ:List Nat) (hc:CallX P f args' H σ.length p res H' k')
   (ha:All2 (a1le s.h (fun h=>True∧∃ o,look h s.h=some o∧look h (minus s.h (hren (rnF σ s.nx) H))=some o) [] s.nx) args (args'.map (A1.ren (rnF σ s.nx))))
   (hσ:allP (fun x=>x < s.nx) σ) (hH:hsub s.nx s.h (hren (rnF σ s.nx) H)) (hf:∀ x,p x→((res x).ren (rnF σ s.nx)).flat∧hflat (hren (rnF σ s.nx) (H' x)))
   (hK:∀ x,p x→runP P ti ops hr n0 r to ({ s with h:=hren (rnF σ s.nx) (H' x)++minus s.h (hren (rnF σ s.nx) H),nx:=s.nx+(k' - σ.length) }.put dst ((res x).ren (rnF σ s.nx))) K):effS P ti ops hr n0 dst r to s K (.call f args) :=
 effS_call (ACall.view σ hc ha hσ hH hf hK)
end
section
variable {P:Program} {ti:Nat→Option TI} {ops:List Oper} {hr:Heap} {n0:Nat} {r:Plan} {to:List (Nat × AV)} {rest:List Oper} {s:St} {K:St→Prop} {dst:Option Nat} {f:FuncId} {args args':List A1} {H:Heap} {H':Heap} {res:AV} {k':Nat}
theorem runS_c (σ:List Nat) (hc:Call P f args' H σ.length res H' k') (ha:args=args'.map (A1.ren (rnF σ s.nx)))
   (hσ:allP (fun x=>x < s.nx) σ) (hH:hsub s.nx s.h (hren (rnF σ s.nx) H))
   (hK:runR P ti ops rest ({ s with h:=hren (rnF σ s.nx) H'++minus s.h (hren (rnF σ s.nx) H),nx:=s.nx+(k' - σ.length) }.put dst (res.ren (rnF σ s.nx))) K):runS P ti ops dst rest s K (.call f args) :=
 runS_at σ hc ha hσ hH fun _ _=>hK
theorem runS_v (σ:List Nat) (hc:Call P f args' H σ.length res H' k')
   (ha:All2 (a1le s.h (fun h=>True∧∃ o,look h s.h=some o∧look h (minus s.h (hren (rnF σ s.nx) H))=some o) [] s.nx) args (args'.map (A1.ren (rnF σ s.nx))))
   (hσ:allP (fun x=>x < s.nx) σ) (hH:hsub s.nx s.h (hren (rnF σ s.nx) H)) (hf:(res.ren (rnF σ s.nx)).flat∧hflat (hren (rnF σ s.nx) H'))
   (hK:runR P ti ops rest ({ s with h:=hren (rnF σ s.nx) H'++minus s.h (hren (rnF σ s.nx) H),nx:=s.nx+(k' - σ.length) }.put dst (res.ren (rnF σ s.nx))) K):runS P ti ops dst rest s K (.call f args) :=
 runS_view σ hc ha hσ hH (fun _ _=>hf) fun _ _=>hK
theorem effS_c (σ:List Nat) (hc:Call P f args' H σ.length res H' k') (ha:args=args'.map (A1.ren (rnF σ s.nx)))
   (hσ:allP (fun x=>x < s.nx) σ) (hH:hsub s.nx s.h (hren (rnF σ s.nx) H))
   (hK:runP P ti ops hr n0 r to ({ s with h:=hren (rnF σ s.nx) H'++minus s.h (hren (rnF σ s.nx) H),nx:=s.nx+(k' - σ.length) }.put dst (res.ren (rnF σ s.nx))) K):effS P ti ops hr n0 dst r to s K (.call f args) :=
 effS_at σ hc ha hσ hH fun _ _=>hK
theorem effS_v (σ:List Nat) (hc:Call P f args' H σ.length res H' k')
   (ha:All2 (a1le s.h (fun h=>True∧∃ o,look h s.h=some o∧look h (minus s.h (hren (rnF σ s.nx) H))=some o) [] s.nx) args (args'.map (A1.ren (rnF σ s.nx))))
   (hσ:allP (fun x=>x < s.nx) σ) (hH:hsub s.nx s.h (hren (rnF σ s.nx) H)) (hf:(res.ren (rnF σ s.nx)).flat∧hflat (hren (rnF σ s.nx) H'))
   (hK:runP P ti ops hr n0 r to ({ s with h:=hren (rnF σ s.nx) H'++minus s.h (hren (rnF σ s.nx) H),nx:=s.nx+(k' - σ.length) }.put dst (res.ren (rnF σ s.nx))) K):effS P ti ops hr n0 dst r to s K (.call f args) :=
 effS_view σ hc ha hσ hH (fun _ _=>hf) fun _ _=>hK
end
def DInv (c:Ctx) (to:List (Nat × AV)) (s:St) (a:Act) (w:World):Prop :=
 ∃ A ρ,Rep c s a w A ρ∧(∀ b,c.A0 b→A b)∧∀ k v,look k to=some v→v.At c.w0 c.A0 c.ρ0 (a.tmps.getD k undef)
structure DOk (c:Ctx) (hr:Heap):Prop where
 heap:HeapAt c.w0 c.A0 c.ρ0 hr
 imm:∀ b,c.A0 b→b < c.w0.heap.size∧¬ c.F b
 ro:∀ b,blkOf c.ρ0 hr b→¬ c.F b
 new:∀ h,c.k0≤h→c.ρ0 h=none
def SD (c:Ctx) (w:World):Prop:=∀ b,b < c.w0.heap.size→¬ c.F b→w.heap[b]? = c.w0.heap[b]?
section
variable {P:Program} {ti:Nat→Option TI} {c:Ctx} {hr:Heap}
theorem rho_le {s:St} {a:Act} {w:World} {A:Nat→Prop} {ρ:Rho} (hd:DOk c hr) (h:Rep c s a w A ρ):∀ k b,c.ρ0 k=some b→ρ k=some b:=by
 intro k b hk
 by_cases hlt:k < c.k0
 · rw [h.old k hlt];exact hk
 · rw [hd.new k (by omega)] at hk;cases hk
theorem old_at {s:St} {a:Act} {w:World} {A:Nat→Prop} {ρ:Rho} (hd:DOk c hr) (h:Rep c s a w A ρ) (hA:∀ b,c.A0 b→A b) {v:AV} {y:Value} (hv:v.At c.w0 c.A0 c.ρ0 y):v.At w A ρ y :=
 hv.mono hA (fun b hb=>h.frame b (hd.imm b hb).1 (hd.imm b hb).2) (rho_le hd h)
theorem Rep.union {s:St} {a:Act} {w:World} {A:Nat→Prop} {ρ:Rho} (hd:DOk c hr) (h:Rep c s a w A ρ):Rep c s a w (fun b=>A b ∨ c.A0 b) ρ:=by
 have hA:∀ b,A b→A b ∨ c.A0 b:=fun b hb=>.inl hb
 refine { heap:=⟨fun x hx hxr=>?_,h.heap.inj⟩,tmps:=fun k v hk=>(h.tmps k v hk).mono hA (fun _ _=>rfl) (fun _ _ h=>h),nt:=h.nt,defers:=h.defers.mono hA (fun _ _=>rfl),os:=h.os,tape:=h.tape,output:=h.output,size:=h.size,frame:=h.frame,own:=h.own,imm:=?_,old:=h.old,new:=h.new,k0:=h.k0 }
 · obtain ⟨b,m,h1,h2,h3,h4⟩:=h.heap.objs x hx hxr
   refine ⟨b,m,h1,h2.mono hA (fun _ _=>rfl) (fun _ _ h=>h) rfl,?_,h4⟩
   rintro (hb|hb)
   · exact h3 hb
   · rcases h.own x hx hxr b m h1 with h5|h5
     · exact (hd.imm b hb).2 h5
     · have:=(hd.imm b hb).1;omega
 · rintro b (hb|hb)
   · exact h.imm b hb
   · exact ⟨Nat.lt_of_lt_of_le (hd.imm b hb).1 h.size,.inl hb⟩
theorem rep_old {to:List (Nat × AV)} {s:St} {a:Act} {w:World} {A:Nat→Prop} {ρ:Rho} (hd:DOk c hr) (h:Rep c s a w A ρ) (hto:∀ k v,look k to=some v→v.At c.w0 c.A0 c.ρ0 (a.tmps.getD k undef)) :
   Rep { c with F:=fun _=>True,dm:=none } ⟨to,hr,c.k0⟩ { a with defers:=[] } c.w0 c.A0 c.ρ0 :=
 { heap:=hd.heap,tmps:=hto,nt:=h.nt,defers:=Marks.nil,os:=rfl,tape:=rfl,output:=rfl,size:=Nat.le_refl _,frame:=fun _ _ _=>rfl,own:=fun _ _ _ _ _ _=>.inl trivial,imm:=fun b hb=>⟨(hd.imm b hb).1,.inl hb⟩,old:=fun _ _=>rfl,new:=hd.new,k0:=Nat.le_refl _ }
theorem keep_put {to:List (Nat × AV)} {a:Act} {d:Option Nat} {v:AV} {y:Value} (hto:∀ k v,look k to=some v→v.At c.w0 c.A0 c.ρ0 (a.tmps.getD k undef)) (hd:∀ k,d=some k→k < a.tmps.size) (hv:v.At c.w0 c.A0 c.ρ0 y) :
   ∀ k u,look k (putL d v to)=some u→u.At c.w0 c.A0 c.ρ0 ((a.put d y).tmps.getD k undef):=by
 intro k u hk
 cases d with
 | none=>exact hto k u hk
 | some d =>
   simp only [putL,look,cond_eq_ite] at hk
   simp only [Act.put]
   split at hk
   · rename_i e
     have e:d=k:=by simpa using e
     subst e;injection hk with hk;subst hk
     rw [getD_set_self (hd d rfl)];exact hv
   · rename_i e
     rw [getD_set_ne (by intro e';subst e';simp at e)]
     exact hto k u hk
theorem keep_clr {to:List (Nat × AV)} {a:Act} {d:Option Nat} {y:Value} (hto:∀ k v,look k to=some v→v.At c.w0 c.A0 c.ρ0 (a.tmps.getD k undef)) :
   ∀ k u,look k (clr d to)=some u→u.At c.w0 c.A0 c.ρ0 ((a.put d y).tmps.getD k undef):=by
 intro k u hk
 cases d with
 | none=>exact hto k u hk
 | some d =>
   obtain ⟨h1,h2⟩:=look_clrL hk
   simp only [Act.put]
   rw [getD_set_ne (Ne.symm h1)]
   exact hto k u h2
mutual
theorem runP_sound (hT:TOk P ti) (hd:DOk c hr) {ops:Array Oper} (hsel:Region.noSelect ops=true) (hnt:∀ o ∈ ops.toList,∀ d,o.dst=some d→d < c.nt) {K:St→Prop} {Q:Exit→Act→World→Prop}
   (hpan:∀ x a w,¬ Q (.panic x) a w) (hQ:∀ s' a' w' A ρ,K s'→Rep c s' a' w' A ρ→(∀ b,c.A0 b→A b)→Q .normal a' w') :
   ∀ (pl:Plan) {f:Nat} {l:Array Bool} {to:List (Nat × AV)} {s:St} {a:Act} {w:World},okP ops f l pl=true→runP P ti ops.toList hr c.k0 pl to s K→DInv c to s a w→wpAnyH P .any ops Q (SD c) f l a w
 | .done,f,l,to,s,a,w,hok,h,⟨A,ρ,hrep,hA,hto⟩=>by
   have hok:(Region.ready .any ops l).isEmpty=true:=by cases f<;>(simp only [okP] at hok;exact hok)
   rw [runP] at h
   exact wpAnyH_done (List.isEmpty_iff.1 hok) (hQ s a w A ρ h hrep hA) f
 | .tak i r,0,l,to,s,a,w,hok,h,_=>by simp [okP] at hok
 | .tak i r, f + 1,l,to,s,a,w,hok,h,⟨A,ρ,hrep,hA,hto⟩=>by
   simp only [okP,Bool.and_eq_true] at hok
   obtain ⟨⟨⟨h1,h2⟩,h3⟩,h4⟩:=hok
   have ih:=fun {to s a w}=>runP_sound hT hd hsel hnt hpan hQ r (to:=to) (s:=s) (a:=a) (w:=w) h4
   rw [runP] at h
   cases ho':ops[i]? with
   | none=>rw [ho'] at h1;simp at h1
   | some o =>
     have ho:ops.toList[i]? = some o:=by simpa using ho'
     rw [ho'] at h1;dsimp only at h1
     rw [ho,takI] at h
     have hS:SD c w:=fun b hb hF=>hrep.frame b hb hF
     have hmem:o ∈ ops.toList:=List.mem_of_getElem? ho
     have hdl:∀ k,o.dst=some k→k < a.tmps.size:=fun k hk=>by rw [hrep.nt];exact hnt o hmem k hk
     have hdc:∀ k,o.dst=some k→k < c.nt:=fun k hk=>hnt o hmem k hk
     cases hb:wantA ops.toList s o.guard with
     | none=>rw [hb,takG] at h;exact h.elim
     | some bw =>
       obtain ⟨b,want⟩:=bw
       rw [hb,takG] at h
       have hw:=wantA_sound hrep hnt hb
       split at h
       · rename_i hbw
         have hw':Region.wanted o (yielded ops a.tmps)=true:=by rw [hw];simp [hbw]
         cases hao:aop ti ⟨to,hr,c.k0⟩ o.op with
         | some q =>
           obtain ⟨p,v,h',nx'⟩:=q
           rw [hao,takO] at h
           obtain ⟨hp,hK⟩:=h
           obtain ⟨_,_,y,hy1,hy2⟩:=quiet_sound hT (rep_old hd hrep hto) hao hp h1
           refine wpAnyH_take ho' hsel h2 h3 (fun x a w h=>absurd h (hpan x _ w)) (.inl ⟨hw',fun w1 hw1=>hy2 w1 (fun _ b hb=>?_)⟩) hS (ih hK ⟨A,ρ,hrep.put hdc (old_at hd hrep hA hy1),hA,keep_put hto hdl hy1⟩)
           rcases hb with hb|hb
           · exact hw1 b (hd.imm b hb).1 (hd.imm b hb).2
           · refine hw1 b ?_ (hd.ro b hb)
             obtain ⟨x,hx,hxr,m,hk⟩:=hb
             obtain ⟨b',m',hk',_,_,hlt⟩:=hd.heap.objs x hx hxr
             have hk:c.ρ0 x.1=some (b,m):=hk
             rw [hk] at hk';injection hk' with hk';injection hk' with e1 e2;subst e1;exact hlt
         | none =>
           rw [hao,takO] at h
           cases hlk:loadK o.op with
           | true =>
             rw [hlk,takW] at h
             · exact h.elim
             · intro _ _ _ _ h1 _;cases h1
           | false =>
             cases has:aop ti s o.op with
             | none =>
               rw [hlk,has,takW] at h
               · exact h.elim
               · intro _ _ _ _ _ h1;cases h1
             | some q =>
               obtain ⟨p,v,h',nx'⟩:=q
               rw [hlk,has,takW] at h
               obtain ⟨hp,hcv,hK⟩:=h
               have hno:¬ (loadK o.op=true ∨ (isCv o.op=true∧cvS v=true)):=by
                 rintro (h|⟨h,h'⟩)
                 · rw [hlk] at h;cases h
                 · rw [h] at hcv
                   have hcv:cvS v=false:=hcv
                   rw [hcv] at h';cases h'
               obtain ⟨_,_,y,hy1,hy2⟩:=quiet_sound hT hrep has hp h1
               exact wpAnyH_take ho' hsel h2 h3 (fun x a w h=>absurd h (hpan x _ w)) (.inl ⟨hw',fun w1 hw1=>hy2 w1 (fun h=>absurd h hno)⟩) hS (ih hK ⟨A,ρ,hrep.put hdc hy1,hA,keep_clr hto⟩)
       · rename_i hbw
         have hw':Region.wanted o (yielded ops a.tmps)=false:=by rw [hw];simpa using hbw
         exact wpAnyH_take ho' hsel h2 h3 (fun x a w h=>absurd h (hpan x _ w)) (.inr ⟨hw',rfl⟩) hS (ih h ⟨A,ρ,hrep.put hdc undef_at,hA,keep_clr hto⟩)
 | .all b,0,l,to,s,a,w,hok,h,_=>by simp [okP] at hok
 | .all b,f+1,l,to,s,a,w,hok,h,hi=>by
   simp only [okP,Bool.and_eq_true,decide_eq_true_eq] at hok
   obtain ⟨⟨h1,h2⟩,h3⟩:=hok
   rw [runP] at h
   refine wpAnyH_all h2 ?_ (runB_sound hT hd hsel hnt hpan hQ b h3 h hi)
   intro e;rw [h2,e] at h1;simp at h1
termination_by pl=>SizeOf.sizeOf pl
theorem runB_sound (hT:TOk P ti) (hd:DOk c hr) {ops:Array Oper} (hsel:Region.noSelect ops=true) (hnt:∀ o ∈ ops.toList,∀ d,o.dst=some d→d < c.nt) {K:St→Prop} {Q:Exit→Act→World→Prop}
   (hpan:∀ x a w,¬ Q (.panic x) a w) (hQ:∀ s' a' w' A ρ,K s'→Rep c s' a' w' A ρ→(∀ b,c.A0 b→A b)→Q .normal a' w') :
   ∀ (br:Br) {f:Nat} {l:Array Bool} {to:List (Nat × AV)} {s:St} {a:Act} {w:World},okB ops f l br=true→runB P ti ops.toList hr c.k0 br to s K→DInv c to s a w →
     ∀ i ∈ br.idx,wpOp P ops Q i (fun a' w'=>SD c w'∧wpAnyH P .any ops Q (SD c) f (l.setIfInBounds i true) a' w') a w
 | .nil,f,l,to,s,a,w,_,_,_=>by intro i hi;cases hi
 | .cons j p br,f,l,to,s,a,w,hok,h,hinv=>by
   simp only [okB,Bool.and_eq_true] at hok
   rw [runB] at h
   intro i hi
   rcases List.mem_cons.1 hi with hi|hi
   · rw [hi]
     obtain ⟨A,ρ,hrep,hA,hto⟩:=hinv
     have h:=h.1
     have ih:=fun {to s a w}=>runP_sound hT hd hsel hnt hpan hQ p (to:=to) (s:=s) (a:=a) (w:=w) hok.1
     have fin:∀ {to s a w},runP P ti ops.toList hr c.k0 p to s K→DInv c to s a w→SD c w∧wpAnyH P .any ops Q (SD c) f (l.setIfInBounds j true) a w:=by
       rintro to s a w h1 ⟨A,ρ,h2,h3⟩
       exact ⟨fun b hb hF=>h2.frame b hb hF,ih h1 ⟨A,ρ,h2,h3⟩⟩
     cases ho':ops[j]? with
     | none =>
       have ho:ops.toList[j]? = none:=by simpa using ho'
       rw [ho,effI] at h;exact h.elim
     | some o =>
       have ho:ops.toList[j]? = some o:=by simpa using ho'
       rw [ho,effI] at h
       have hmem:o ∈ ops.toList:=List.mem_of_getElem? ho
       have hdc:∀ k,o.dst=some k→k < c.nt:=fun k hk=>hnt o hmem k hk
       cases hb:wantA ops.toList s o.guard with
       | none=>rw [hb,effG] at h;exact h.elim
       | some bw =>
         obtain ⟨b,want⟩:=bw
         rw [hb,effG] at h
         have hw:=wantA_sound hrep hnt hb
         unfold wpOp
         simp only [ho']
         split at h
         · rename_i hbw
           have hw':Region.wanted o (yielded ops a.tmps)=true:=by rw [hw];simp [hbw]
           rw [if_pos hw']
           left
           unfold Oper.wp
           cases hc:callA ti s o.op with
           | some fl =>
             obtain ⟨fn,args⟩:=fl
             rw [hc,evR_call,effS] at h
             obtain ⟨hf,hcall⟩:=h
             obtain ⟨vs,h1,h2⟩:=callA_sound hT hrep hc hf
             rw [h1,Oper.upon_enter]
             refine (hcall c a w A ρ vs hrep h2).mono ?_
             rintro e w' ⟨y,v,h',nx,A',ρ',rfl,hK,hr',hv⟩
             have hu:=hr'.union hd
             exact fin hK ⟨_,ρ',hu.put hdc (hv.mono (fun b hb=>.inl hb) (fun _ _=>rfl) (fun _ _ h=>h)),fun b hb=>.inr hb,keep_clr hto⟩
           | none =>
             cases he:aop ti s o.op with
             | some r =>
               obtain ⟨p,v,h',nx⟩:=r
               rw [hc,he,evR_val,effS] at h
               obtain ⟨hp,hK⟩:=h
               obtain ⟨y,w',ρ',hran,hr',hv⟩:=aop_sound hT hrep he hp
               have hnext:=fin hK ⟨A,ρ',hr'.put hdc hv,hA,keep_clr hto⟩
               rcases hran with hran|⟨hran,rfl⟩
               · rw [hran,Oper.upon_value];exact hnext
               · rw [hran,Oper.upon_skip];exact hnext
             | none =>
               rw [hc,he] at h
               simp only [evR] at h
               rw [effS] at h;exact h.elim
         · rename_i hbw
           have hw':¬ Region.wanted o (yielded ops a.tmps)=true:=by rw [hw];simpa using hbw
           rw [if_neg hw']
           exact fin h ⟨A,ρ,hrep.put hdc undef_at,hA,keep_clr hto⟩
   · exact runB_sound hT hd hsel hnt hpan hQ br hok.2 h.2 hinv i hi
termination_by br=>SizeOf.sizeOf br
end
end
theorem pick_sub {ro:List Nat}:∀ {H:Heap},(pickH ro H).Sublist H
 | []=>List.Sublist.refl _
 | (k,o) ::r=>by
   simp only [pickH,cond_eq_ite]
   split
   · exact List.Sublist.cons_cons _ pick_sub
   · exact List.Sublist.cons _ pick_sub
theorem drop_sub {ro:List Nat}:∀ {H:Heap},(dropH ro H).Sublist H
 | []=>List.Sublist.refl _
 | (k,o) ::r=>by
   simp only [dropH,cond_eq_ite]
   split
   · exact List.Sublist.cons _ drop_sub
   · exact List.Sublist.cons_cons _ drop_sub
theorem pick_ro {ro:List Nat}:∀ {H:Heap} {x:Nat × AObj},x ∈ pickH ro H→memN x.1 ro=true
 | [],x,h=>by cases h
 | (k,o) ::r,x,h=>by
   simp only [pickH,cond_eq_ite] at h
   split at h
   · rename_i hk
     rcases List.mem_cons.1 h with h|h
     · rw [h];exact hk
     · exact pick_ro h
   · exact pick_ro h
theorem drop_ro {ro:List Nat}:∀ {H:Heap} {x:Nat × AObj},x ∈ dropH ro H→memN x.1 ro=false
 | [],x,h=>by cases h
 | (k,o) ::r,x,h=>by
   simp only [dropH,cond_eq_ite] at h
   split at h
   · exact drop_ro h
   · rename_i hk
     rcases List.mem_cons.1 h with h|h
     · rw [h];simpa only [Bool.not_eq_true] using hk
     · exact drop_ro h
theorem look_keepL {t:List (Nat × AV)} {k:Nat} {v:AV}:∀ {l:List Nat},look k (keepL t l)=some v→look k t=some v
 | [],h=>by simp [keepL,look] at h
 | j ::r,h=>by
   simp only [keepL] at h
   split at h
   · rename_i u hu
     simp only [look,cond_eq_ite] at h
     split at h
     · rename_i e
       have e:j=k:=by simpa using e
       subst e;injection h with h;subst h;exact hu
     · exact look_keepL h
   · exact look_keepL h
theorem AWp.draw {P:Program} {ti:Nat→Option TI} {c:Ctx} {Q:Exit→St→Prop} {s:St} (hT:TOk P ti) (hmix:P.follows .mixedOrders=true) {id:Nat} {ops:List Oper} (pl:Plan) (ro keep:List Nat)
   (hok:okP ⟨ops⟩ ops.length (Array.replicate ops.length false) pl=true) (hsel:Region.noSelect ⟨ops⟩=true) (hd:dstOk c.nt ops=true)
   (h:runP P ti ops (pickH ro s.h) s.nx pl (keepL s.t keep) ⟨s.t,dropH ro s.h,s.nx⟩ (fun s'=>Q .normal ⟨s'.t,pickH ro s.h++s'.h,s'.nx⟩)):AWp P c (.region id ⟨ops⟩ true) Q s:=by
 rintro a w ⟨A,ρ,hr0⟩
 have hr:=hr0.drew
 let c2:Ctx:={ w0:=w.drew,A0:=A,ρ0:=ρ,k0:=s.nx,F:=blkOf ρ (dropH ro s.h),nt:=c.nt,lo:=c.lo,hlo:=Nat.le_trans c.hlo hr.size,dm:=c.dm }
 have hblk:∀ {H:Heap},H.Sublist s.h→∀ b,blkOf ρ H b→b < w.drew.heap.size∧¬ A b∧(c.F b ∨ c.w0.heap.size≤b):=by
   rintro H hs b ⟨x,hx,hxr,m,hk⟩
   obtain ⟨b',m',hk',_,h3,h4⟩:=hr.heap.objs x (hs.subset hx) hxr
   rw [hk] at hk';injection hk' with hk';injection hk' with e1 e2;subst e1
   exact ⟨h4,h3,hr.own x (hs.subset hx) hxr b m hk⟩
 have hap:∀ b,blkOf ρ (pickH ro s.h) b→¬ blkOf ρ (dropH ro s.h) b:=by
   rintro b ⟨x,hx,hxr,m,hk⟩ ⟨y,hy,hyr,m',hk'⟩
   have hne:x.1 ≠ y.1:=by
     intro e
     have h1:=pick_ro hx
     have h2:=drop_ro hy
     rw [e,h2] at h1;cases h1
   exact inj_of hr.heap.inj (pick_sub.subset hx) (drop_sub.subset hy) hxr hyr hne _ _ hk hk' rfl
 have hdok:DOk c2 (pickH ro s.h) :=
   { heap:=hr.heap.sub pick_sub,imm:=fun b hb=>⟨(hr.imm b hb).1,fun hF=>(hblk drop_sub b hF).2.1 hb⟩,ro:=hap,new:=hr.new }
 have hrep2:Rep c2 ⟨s.t,dropH ro s.h,s.nx⟩ a w.drew A ρ :=
   { heap:=hr.heap.sub drop_sub,tmps:=hr.tmps,nt:=hr.nt,defers:=hr.defers,os:=rfl,tape:=rfl,output:=rfl,size:=Nat.le_refl _,frame:=fun _ _ _=>rfl,
     own:=fun x hx hxr b m hk=>.inl ⟨x,hx,hxr,m,hk⟩,imm:=fun b hb=>⟨(hr.imm b hb).1,.inl hb⟩,old:=fun _ _=>rfl,new:=hr.new,k0:=Nat.le_refl _ }
 have hnt:∀ o ∈ (⟨ops⟩:Array Oper).toList,∀ d,o.dst=some d→d < c2.nt:=by
   intro o ho d hod
   simp only [dstOk,List.all_eq_true] at hd
   have:=hd o ho
   rw [hod] at this
   simpa using this
 have key:=runP_sound (P:=P) (Q:=fun e a w=>e=.normal∧∃ s',Q .normal s'∧Abs c s' a w) hT hdok hsel hnt (fun x a w h=>by cases h.1) (K:=fun s'=>Q .normal ⟨s'.t,pickH ro s.h++s'.h,s'.nx⟩) (by
   intro s' a' w' A' ρ' hK hr' hA'
   refine ⟨rfl,_,hK,A',ρ',?_⟩
   have hρ:=rho_le hdok hr'
   have hkeep:∀ b,b < w.drew.heap.size→¬ c2.F b→w'.heap[b]? = w.drew.heap[b]?:=hr'.frame
   have himm':∀ b,A' b→b < w'.heap.size∧(A b ∨ c2.F b ∨ w.drew.heap.size≤b):=hr'.imm
   have hown':∀ x ∈ s'.h,x.2.real→∀ b m,ρ' x.1=some (b,m)→c2.F b ∨ w.drew.heap.size≤b:=hr'.own
   have hpick:∀ x ∈ pickH ro s.h,x.2.real→∃ b m,ρ' x.1=some (b,m)∧x.2.At w' A' ρ' b m∧¬ A' b∧b < w'.heap.size∧¬ c2.F b∧b < w.drew.heap.size∧ρ x.1=some (b,m):=by
     intro x hx hxr
     obtain ⟨b,m,h1,h2,h3,h4⟩:=hdok.heap.objs x hx hxr
     have h1:ρ x.1=some (b,m):=h1
     have h3:¬ A b:=h3
     have h4:b < w.drew.heap.size:=h4
     have hnF:¬ c2.F b:=hap b ⟨x,hx,hxr,m,h1⟩
     refine ⟨b,m,hρ _ _ h1,h2.mono hA' (fun b' hb'=>hkeep b' (hdok.imm b' hb').1 (hdok.imm b' hb').2) hρ (hkeep b h4 hnF),?_,Nat.lt_of_lt_of_le h4 hr'.size,hnF,h4,h1⟩
     intro hb
     rcases (himm' b hb).2 with h5|h5|h5
     · exact h3 h5
     · exact hnF h5
     · omega
   refine { heap:=⟨fun x hx hxr=>?_,?_⟩,tmps:=hr'.tmps,nt:=hr'.nt,defers:=hr'.defers,os:=hr'.os.trans hr.os,tape:=hr'.tape.trans hr.tape,output:=hr'.output.trans hr.output,size:=Nat.le_trans hr.size hr'.size,frame:=?_,own:=?_,imm:=?_,old:=?_,new:=hr'.new,k0:=Nat.le_trans hr.k0 hr'.k0 }
   · rcases List.mem_append.1 hx with hx|hx
     · obtain ⟨b,m,h1,h2,h3,h4,_⟩:=hpick x hx hxr
       exact ⟨b,m,h1,h2,h3,h4⟩
     · exact hr'.heap.objs x hx hxr
   · rw [List.pairwise_append]
     refine ⟨?_,hr'.heap.inj,?_⟩
     · refine List.Pairwise.imp_of_mem ?_ hdok.heap.inj
       intro x y hx hy hxy hxr hyr p q hp hq
       obtain ⟨b1,m1,e1,_,_,_,_,_,e1'⟩:=hpick x hx hxr
       obtain ⟨b2,m2,e2,_,_,_,_,_,e2'⟩:=hpick y hy hyr
       rw [e1] at hp;rw [e2] at hq
       injection hp with hp;injection hq with hq;subst hp;subst hq
       exact hxy hxr hyr _ _ e1' e2'
     · intro x hx y hy hxr hyr p q hp hq
       obtain ⟨b1,m1,e1,_,_,_,e5,e6,_⟩:=hpick x hx hxr
       rw [e1] at hp;injection hp with hp;subst hp
       obtain ⟨b2,m2⟩:=q
       show b1 ≠ b2
       rcases hown' y hy hyr b2 m2 hq with h5|h5
       · intro e;rw [e] at e5;exact e5 h5
       · omega
   · intro b hb hF
     have h1:b < w.drew.heap.size:=Nat.lt_of_lt_of_le hb hr.size
     rw [hkeep b h1 ?_]
     · exact hr.frame b hb hF
     · intro h2
       rcases (hblk drop_sub b h2).2.2 with h3|h3
       · exact hF h3
       · omega
   · intro x hx hxr b m hk
     rcases List.mem_append.1 hx with hx|hx
     · obtain ⟨b1,m1,e1,_,_,_,_,_,e2⟩:=hpick x hx hxr
       rw [e1] at hk;injection hk with hk;injection hk with e3 e4;subst e3
       exact hr.own x (pick_sub.subset hx) hxr _ _ e2
     · rcases hown' x hx hxr b m hk with h5|h5
       · exact (hblk drop_sub b h5).2.2
       · exact .inr (Nat.le_trans hr.size h5)
   · intro b hb
     refine ⟨(himm' b hb).1,?_⟩
     rcases (himm' b hb).2 with h5|h5|h5
     · exact (hr.imm b h5).2
     · exact .inr (hblk drop_sub b h5).2.2
     · exact .inr (.inr (Nat.le_trans hr.size h5))
   · intro h hh
     have:h < c2.k0:=Nat.lt_of_lt_of_le hh hr.k0
     rw [hr'.old h this];exact hr.old h hh) pl (f:=ops.length) (l:=Array.replicate ops.length false) (to:=keepL s.t keep) (s:=⟨s.t,dropH ro s.h,s.nx⟩) (a:=a) (w:=w.drew) hok h
   ⟨A,ρ,hrep2,fun _ h=>h,fun k v hk=>hr.tmps k v (look_keepL hk)⟩
 refine wp_mono (wp_region_held (S:=SD c2) (Q:=fun e a w=>e=.normal∧∃ s',Q .normal s'∧Abs c s' a w) hmix ?_) ?_
 · exact key
 · rintro e a' w' ⟨rfl,h⟩;exact h
end Go.Hw
namespace Go.Hw
section
variable {ti:Nat→Option TI} {s:St}
theorem old_aop_move (x:Operand):aop ti s (.move x)=match evO s x with|some v=>some (True,v,s.h,s.nx)|none=>none:=rfl
theorem old_aop_assign (x:Operand):aop ti s (.assign x)=match evO s x with|some v=>some (True,v,s.h,s.nx)|none=>none:=rfl
theorem old_aop_pick (c a b:Operand):aop ti s (.pick c a b)=match evO s c,evO s a,evO s b with
   | some (.o (.c (.t (.v (.bool q))))),some u,some v=>some (True,if q=true then u else v,s.h,s.nx)
   | _,_,_=>none:=rfl
theorem old_aop_alloc (t:TypeId):aop ti s (.alloc t)=match ti t with
   | some x=>match zcells x with
     | some l=>some (True,.o (.c (.ptr s.nx 0 0 0)),(s.nx,.box l) ::s.h,s.nx+1)
     | none=>none
   | none=>none:=rfl
theorem old_aop_box (t:TypeId) (x:Operand):aop ti s (.box t x)=match evO s x with
   | some (.o v)=>some (True,.o (.c (.ptr s.nx 0 0 0)),(s.nx,.box v.cells) ::s.h,s.nx+1)
   | _=>none:=rfl
theorem old_aop_build (t:TypeId) (parts:Array (Nat × Operand)):aop ti s (.build t parts)=match partsA s parts.toList with
   | some l=>match buildA ti t l with
     | some v=>some (True,.o v,s.h,s.nx)
     | none=>none
   | none=>none:=rfl
theorem old_aop_buildSlice (t:TypeId) (n:Nat) (parts:Array (Nat × Operand)):aop ti s (.buildSlice t n parts)=match partsA s parts.toList with
   | some l=>match litA ti t n l with
     | some (wd,r)=>some (True,.o (.c (.sl s.nx wd 0 n)),(s.nx,litObj wd n r) ::s.h,s.nx+1)
     | none=>none
   | none=>none:=rfl
theorem old_aop_load (t:TypeId) (x:Operand):aop ti s (.load t x)=match ti t,evO s x with
   | some tx,some (.o a)=>match loadA tx s.h a with
     | some (p,v)=>some (p,.o v,s.h,s.nx)
     | none=>none
   | _,_=>none:=rfl
theorem old_aop_store (t:TypeId) (a x:Operand):aop ti s (.store t a x)=match ti t,evO s a,evO s x with
   | some tx,some (.o u),some (.o v)=>match storeA tx s.h v u with
     | some (p,h)=>some (p,.tup [],h,s.nx)
     | none=>none
   | _,_,_=>none:=rfl
theorem old_aop_nilCheck (x:Operand):aop ti s (.nilCheck x)=match evO s x with
   | some (.o v)=>if nilOk v=true then some (True,.o v,s.h,s.nx) else none
   | _=>none:=rfl
def xorOp:BinOp→Bool
 | .xor=>true
 | _=>false
theorem old_aop_binOp (op:BinOp) (t:TypeId) (x y:Operand) (yt:TypeId) (hop:xorOp op=false):aop ti s (.binOp op t x y yt)=match evO s x,evO s y with
   | some (.o a),some (.o b)=>match cmpA ti op t a b with
     | some (p,r)=>some (p,scal r,s.h,s.nx)
     | none=>none
   | _,_=>none:=by cases op<;>first|rfl|cases hop
theorem old_aop_not (t:TypeId) (x:Operand):aop ti s (.unOp .not t x)=match evO s x with
   | some (.o (.c (.t (.v (.bool q)))))=>some (True,scal (.bool (!q)),s.h,s.nx)
   | _=>none:=rfl
theorem old_aop_neg (t:TypeId) (x:Operand):aop ti s (.unOp .neg t x)=match evO s x with
   | some (.o (.c (.t (.v (.int k n)))))=>some (Fits k (-n),scal (.int k (-n)),s.h,s.nx)
   | _=>none:=rfl
theorem old_aop_fieldAddr (t:TypeId) (x:Operand) (f:Nat):aop ti s (.fieldAddr t x f)=match evO s x with
   | some (.o a)=>match fieldA ti t f a with
     | some r=>some (True,.o r,s.h,s.nx)
     | none=>none
   | _=>none:=rfl
theorem old_aop_field (t:TypeId) (x:Operand) (f:Nat):aop ti s (.field t x f)=match evO s x with
   | some (.o a)=>match fldA ti t f a with
     | some r=>some (True,.o r,s.h,s.nx)
     | none=>none
   | _=>none:=rfl
theorem old_aop_indexAddr (t:TypeId) (x i:Operand):aop ti s (.indexAddr t x i)=match evO s x,evO s i with
   | some (.o a),some (.o b)=>match indexA ti t a b with
     | some (p,r)=>some (p,.o r,s.h,s.nx)
     | none=>none
   | _,_=>none:=rfl
theorem old_aop_slice (t:TypeId) (x:Operand) (lo hi:Option Operand):aop ti s (.slice t x lo hi none)=match evO s x with
   | some (.o a)=>match sliceA ti t s a lo hi with
     | some (p,r)=>some (p,.o r,s.h,s.nx)
     | none=>none
   | _=>none:=rfl
theorem old_aop_makeSlice (t:TypeId) (l c:Operand):aop ti s (.makeSlice t l c)=match evO s l,evO s c with
   | some (.o a),some (.o b)=>match makeA ti t a b with
     | some (p,wd,n,f)=>some (p,.o (.c (.sl s.nx wd 0 n)),(s.nx,.row wd n f) ::s.h,s.nx+1)
     | none=>none
   | _,_=>none:=rfl
theorem old_aop_extract (x:Operand) (i:Nat):aop ti s (.extract x i)=match evO s x with
   | some (.tup l)=>match l[i]? with
     | some v=>some (True,.o v,s.h,s.nx)
     | none=>none
   | _=>none:=rfl
theorem old_aop_len (x:Operand) (t:TypeId):aop ti s (.call ⟨.builtin .len,⟨[x]⟩,⟨[t]⟩⟩)=match evO s x with
   | some (.o a)=>match lenA ti t a with
     | some r=>some (True,scal r,s.h,s.nx)
     | none=>none
   | _=>none:=rfl
theorem old_aop_append (x y:Operand) (t xt:TypeId):aop ti s (.call ⟨.builtin .append,⟨[x,y]⟩,⟨[t,xt]⟩⟩)=match evO s x,evO s y with
   | some (.o a),some (.o b)=>match appendA ti s.h t xt a b with
     | some (p,wd,n,f,h)=>some (p,.o (.c (.sl s.nx wd 0 n)),(s.nx,.row wd n f) ::h,s.nx+1)
     | none=>none
   | _,_=>none:=rfl
theorem old_aop_copy (x y:Operand) (t xt:TypeId):aop ti s (.call ⟨.builtin .copy,⟨[x,y]⟩,⟨[t,xt]⟩⟩)=match evO s x,evO s y with
   | some (.o a),some (.o b)=>match copyA ti s.h t a b with
     | some (p,r,h)=>some (p,scal r,h,s.nx)
     | none=>none
   | _,_=>none:=rfl
theorem old_callA_call (x:Operand) (args:List Operand) (tys:Array TypeId):callA ti s (.call ⟨.value x,⟨args⟩,tys⟩)=match evO s x,argsA s args with
   | some (.o (.c (.t (.v (.func (.func f) ⟨[]⟩ ⟨[]⟩))))),some l=>some (f,l)
   | some (.o (.c (.fp q f h wd i j))),some l=>some (f,bif q then .c (.ptr h wd i j) ::l else l++[.c (.ptr h wd i j)])
   | _,_=>none:=rfl
end
def ob {α β:Type} (x:Option α) (f:α→Option β):Option β:=match x with
 | some a=>f a
 | none=>none
@[go_sem] theorem ob_some {α β:Type} {a:α} {f:α→Option β}:ob (some a) f=f a:=rfl
@[go_sem] theorem ob_none {α β:Type} {f:α→Option β}:ob none f=none:=rfl
def obf {α:Type} (b:Bool) (x:Option α):Option α:=bif b then x else none
@[go_sem] theorem obf_true {α:Type} {x:Option α}:obf true x=x:=rfl
@[go_sem] theorem obf_false {α:Type} {x:Option α}:obf false x=none:=rfl
def one:AV→Option A1
 | .o a=>some a
 | .tup _=>none
def ev1 (s:St) (x:Operand):Option A1:=ob (evO s x) one
def bl1:A1→Option Bool
 | .c (.t (.v (.bool q)))=>some q
 | _=>none
def in1:A1→Option (IntKind × Int)
 | .c (.t (.v (.int k n)))=>some (k,n)
 | _=>none
attribute [go_sem] one ev1 bl1 in1
section
variable {ti:Nat→Option TI} {s:St}
@[go_sem] theorem aop_move (x:Operand):aop ti s (.move x)=ob (evO s x) fun v=>some (True,v,s.h,s.nx):=by
 rw [old_aop_move]
 cases evO s x<;>rfl
@[go_sem] theorem aop_assign (x:Operand):aop ti s (.assign x)=ob (evO s x) fun v=>some (True,v,s.h,s.nx):=by
 rw [old_aop_assign]
 cases evO s x<;>rfl
@[go_sem] theorem aop_pick (c a b:Operand):aop ti s (.pick c a b)=ob (ev1 s c) fun q=>ob (bl1 q) fun q=>ob (evO s a) fun u=>ob (evO s b) fun v=>some (True,if q=true then u else v,s.h,s.nx):=by
 rw [old_aop_pick];unfold ev1
 rcases evO s c with _|((_|_)|_)<;>(try rfl)
 rename_i q
 rcases q with (x|_|_)|_|_|_|_|_|_<;>(try rfl)
 cases x<;>(try rfl)
 rcases evO s a with _|_<;>(try rfl)
 rcases evO s b with _|_<;>rfl
@[go_sem] theorem aop_alloc (t:TypeId):aop ti s (.alloc t)=ob (ti t) fun x=>ob (zcells x) fun l=>some (True,.o (.c (.ptr s.nx 0 0 0)),(s.nx,.box l) ::s.h,s.nx+1):=by
 rw [old_aop_alloc]
 rcases ti t with _|x<;>(try rfl)
 dsimp only [ob]
 rcases zcells x with _|_<;>rfl
@[go_sem] theorem aop_box (t:TypeId) (x:Operand):aop ti s (.box t x)=ob (ev1 s x) fun v=>some (True,.o (.c (.ptr s.nx 0 0 0)),(s.nx,.box v.cells) ::s.h,s.nx+1):=by
 rw [old_aop_box];unfold ev1
 rcases evO s x with _|(_|_)<;>rfl
@[go_sem] theorem aop_build (t:TypeId) (parts:Array (Nat × Operand)):aop ti s (.build t parts)=ob (partsA s parts.toList) fun l=>ob (buildA ti t l) fun v=>some (True,.o v,s.h,s.nx):=by
 rw [old_aop_build]
 rcases partsA s parts.toList with _|l<;>(try rfl)
 dsimp only [ob]
 rcases buildA ti t l with _|_<;>rfl
@[go_sem] theorem aop_buildSlice (t:TypeId) (n:Nat) (parts:Array (Nat × Operand)):aop ti s (.buildSlice t n parts)=ob (partsA s parts.toList) fun l=>ob (litA ti t n l) fun r=>some (True,.o (.c (.sl s.nx r.1 0 n)),(s.nx,litObj r.1 n r.2) ::s.h,s.nx+1):=by
 rw [old_aop_buildSlice]
 rcases partsA s parts.toList with _|l<;>(try rfl)
 dsimp only [ob]
 rcases litA ti t n l with _|⟨_,_⟩<;>rfl
@[go_sem] theorem aop_load (t:TypeId) (x:Operand):aop ti s (.load t x)=ob (ti t) fun tx=>ob (ev1 s x) fun a=>ob (loadA tx s.h a) fun r=>some (r.1,.o r.2,s.h,s.nx):=by
 rw [old_aop_load];unfold ev1
 rcases ti t with _|tx<;>(try rfl)
 rcases evO s x with _|(a|_)<;>(try rfl)
 dsimp only [ob,one]
 rcases loadA tx s.h a with _|⟨_,_⟩<;>rfl
@[go_sem] theorem aop_store (t:TypeId) (a x:Operand):aop ti s (.store t a x)=ob (ti t) fun tx=>ob (ev1 s a) fun u=>ob (ev1 s x) fun v=>ob (storeA tx s.h v u) fun r=>some (r.1,.tup [],r.2,s.nx):=by
 rw [old_aop_store];unfold ev1
 rcases ti t with _|tx<;>(try rfl)
 rcases evO s a with _|(u|_)<;>(try rfl)
 rcases evO s x with _|(v|_)<;>(try rfl)
 dsimp only [ob,one]
 rcases storeA tx s.h v u with _|⟨_,_⟩<;>rfl
@[go_sem] theorem aop_nilCheck (x:Operand):aop ti s (.nilCheck x)=ob (ev1 s x) fun v=>obf (nilOk v) (some (True,.o v,s.h,s.nx)):=by
 rw [old_aop_nilCheck];unfold ev1
 rcases evO s x with _|(v|_)<;>(try rfl)
 dsimp only [ob,one,obf]
 cases nilOk v<;>rfl
theorem aop_binOp (op:BinOp) (t:TypeId) (x y:Operand) (yt:TypeId) (hop:xorOp op=false):aop ti s (.binOp op t x y yt)=ob (ev1 s x) fun a=>ob (ev1 s y) fun b=>ob (cmpA ti op t a b) fun r=>some (r.1,scal r.2,s.h,s.nx):=by
 rw [old_aop_binOp _ _ _ _ _ hop];unfold ev1
 rcases evO s x with _|(a|_)<;>(try rfl)
 rcases evO s y with _|(b|_)<;>(try rfl)
 dsimp only [ob,one]
 rcases cmpA ti op t a b with _|⟨_,_⟩<;>rfl
@[go_sem] theorem aop_add (t:TypeId) (x y:Operand) (yt:TypeId):aop ti s (.binOp .add t x y yt)=ob (ev1 s x) fun a=>ob (ev1 s y) fun b=>ob (cmpA ti .add t a b) fun r=>some (r.1,scal r.2,s.h,s.nx):=aop_binOp .add t x y yt rfl
@[go_sem] theorem aop_sub (t:TypeId) (x y:Operand) (yt:TypeId):aop ti s (.binOp .sub t x y yt)=ob (ev1 s x) fun a=>ob (ev1 s y) fun b=>ob (cmpA ti .sub t a b) fun r=>some (r.1,scal r.2,s.h,s.nx):=aop_binOp .sub t x y yt rfl
@[go_sem] theorem aop_mul (t:TypeId) (x y:Operand) (yt:TypeId):aop ti s (.binOp .mul t x y yt)=ob (ev1 s x) fun a=>ob (ev1 s y) fun b=>ob (cmpA ti .mul t a b) fun r=>some (r.1,scal r.2,s.h,s.nx):=aop_binOp .mul t x y yt rfl
@[go_sem] theorem aop_quo (t:TypeId) (x y:Operand) (yt:TypeId):aop ti s (.binOp .quo t x y yt)=ob (ev1 s x) fun a=>ob (ev1 s y) fun b=>ob (cmpA ti .quo t a b) fun r=>some (r.1,scal r.2,s.h,s.nx):=aop_binOp .quo t x y yt rfl
@[go_sem] theorem aop_rem (t:TypeId) (x y:Operand) (yt:TypeId):aop ti s (.binOp .rem t x y yt)=ob (ev1 s x) fun a=>ob (ev1 s y) fun b=>ob (cmpA ti .rem t a b) fun r=>some (r.1,scal r.2,s.h,s.nx):=aop_binOp .rem t x y yt rfl
@[go_sem] theorem aop_eql (t:TypeId) (x y:Operand) (yt:TypeId):aop ti s (.binOp .eql t x y yt)=ob (ev1 s x) fun a=>ob (ev1 s y) fun b=>ob (cmpA ti .eql t a b) fun r=>some (r.1,scal r.2,s.h,s.nx):=aop_binOp .eql t x y yt rfl
@[go_sem] theorem aop_neq (t:TypeId) (x y:Operand) (yt:TypeId):aop ti s (.binOp .neq t x y yt)=ob (ev1 s x) fun a=>ob (ev1 s y) fun b=>ob (cmpA ti .neq t a b) fun r=>some (r.1,scal r.2,s.h,s.nx):=aop_binOp .neq t x y yt rfl
@[go_sem] theorem aop_lss (t:TypeId) (x y:Operand) (yt:TypeId):aop ti s (.binOp .lss t x y yt)=ob (ev1 s x) fun a=>ob (ev1 s y) fun b=>ob (cmpA ti .lss t a b) fun r=>some (r.1,scal r.2,s.h,s.nx):=aop_binOp .lss t x y yt rfl
@[go_sem] theorem aop_leq (t:TypeId) (x y:Operand) (yt:TypeId):aop ti s (.binOp .leq t x y yt)=ob (ev1 s x) fun a=>ob (ev1 s y) fun b=>ob (cmpA ti .leq t a b) fun r=>some (r.1,scal r.2,s.h,s.nx):=aop_binOp .leq t x y yt rfl
@[go_sem] theorem aop_gtr (t:TypeId) (x y:Operand) (yt:TypeId):aop ti s (.binOp .gtr t x y yt)=ob (ev1 s x) fun a=>ob (ev1 s y) fun b=>ob (cmpA ti .gtr t a b) fun r=>some (r.1,scal r.2,s.h,s.nx):=aop_binOp .gtr t x y yt rfl
@[go_sem] theorem aop_geq (t:TypeId) (x y:Operand) (yt:TypeId):aop ti s (.binOp .geq t x y yt)=ob (ev1 s x) fun a=>ob (ev1 s y) fun b=>ob (cmpA ti .geq t a b) fun r=>some (r.1,scal r.2,s.h,s.nx):=aop_binOp .geq t x y yt rfl
@[go_sem] theorem aop_and (t:TypeId) (x y:Operand) (yt:TypeId):aop ti s (.binOp .and t x y yt)=ob (ev1 s x) fun a=>ob (ev1 s y) fun b=>ob (cmpA ti .and t a b) fun r=>some (r.1,scal r.2,s.h,s.nx):=aop_binOp .and t x y yt rfl
@[go_sem] theorem aop_or (t:TypeId) (x y:Operand) (yt:TypeId):aop ti s (.binOp .or t x y yt)=ob (ev1 s x) fun a=>ob (ev1 s y) fun b=>ob (cmpA ti .or t a b) fun r=>some (r.1,scal r.2,s.h,s.nx):=aop_binOp .or t x y yt rfl
@[go_sem] theorem aop_shl (t:TypeId) (x y:Operand) (yt:TypeId):aop ti s (.binOp .shl t x y yt)=ob (ev1 s x) fun a=>ob (ev1 s y) fun b=>ob (cmpA ti .shl t a b) fun r=>some (r.1,scal r.2,s.h,s.nx):=aop_binOp .shl t x y yt rfl
@[go_sem] theorem aop_shr (t:TypeId) (x y:Operand) (yt:TypeId):aop ti s (.binOp .shr t x y yt)=ob (ev1 s x) fun a=>ob (ev1 s y) fun b=>ob (cmpA ti .shr t a b) fun r=>some (r.1,scal r.2,s.h,s.nx):=aop_binOp .shr t x y yt rfl
@[go_sem] theorem aop_andNot (t:TypeId) (x y:Operand) (yt:TypeId):aop ti s (.binOp .andNot t x y yt)=ob (ev1 s x) fun a=>ob (ev1 s y) fun b=>ob (cmpA ti .andNot t a b) fun r=>some (r.1,scal r.2,s.h,s.nx):=aop_binOp .andNot t x y yt rfl
@[go_sem] theorem aop_not (t:TypeId) (x:Operand):aop ti s (.unOp .not t x)=ob (ev1 s x) fun q=>ob (bl1 q) fun q=>some (True,scal (.bool (!q)),s.h,s.nx):=by
 rw [old_aop_not];unfold ev1
 rcases evO s x with _|((_|_)|_)<;>(try rfl)
 rename_i q
 rcases q with (x|_|_)|_|_|_|_|_|_<;>(try rfl)
 cases x<;>rfl
@[go_sem] theorem aop_neg (t:TypeId) (x:Operand):aop ti s (.unOp .neg t x)=ob (ev1 s x) fun q=>ob (in1 q) fun q=>some (Fits q.1 (-q.2),scal (.int q.1 (-q.2)),s.h,s.nx):=by
 rw [old_aop_neg];unfold ev1
 rcases evO s x with _|((_|_)|_)<;>(try rfl)
 rename_i q
 rcases q with (x|_|_)|_|_|_|_|_|_<;>(try rfl)
 cases x<;>rfl
def kint:TK→Option IntKind
 | .int k=>some k
 | _=>none
def row1:AObj→Option (Nat × (Nat→Nat→Cell))
 | .row 1 m f=>some (m,f)
 | _=>none
def by1:Cell→Option Int
 | .t (.v (.int .u8 n))=>some n
 | _=>none
def ku8:TK→Option Unit
 | .int .u8=>some ()
 | _=>none
def cnv1 (ti:Nat→Option TI) (s:St):TK→TK→A1→Option (Prop × A1)
 | .int _,.int k,.c (.t (.v (.int _ n)))=>some (Fits k n,.c (.t (.v (.int k n))))
 | .sli e,.str,.c (.sl h 1 o 1)=>ob (ti e) fun te=>ob (look h s.h) fun r=>ob (row1 r) fun r=>ob (ku8 te.k) fun _=>ob (by1 (r.2 o 0)) fun n=>some (o < r.1,.c (.t (.v (.string ⟨#[UInt8.ofNat n.toNat]⟩))))
 | _,_,_=>none
attribute [go_sem] row1 by1 ku8 cnv1
theorem aopB_cnv (src dst:TypeId) (x:Operand):aopB ti s (.convert src dst x)=match ti src,ti dst,evO s x with
   | some ta,some tb,some (.o q)=>match ta.k,tb.k,q with
     | .sli e,.str,.c (.sl h 1 o 1)=>match ti e,look h s.h with
       | some te,some (.row 1 m f)=>match te.k,f o 0 with
         | .int .u8,.t (.v (.int .u8 n))=>some (o < m,.o (.c (.t (.v (.string ⟨#[UInt8.ofNat n.toNat]⟩)))),s.h,s.nx)
         | _,_=>none
       | _,_=>none
     | _,_,_=>none
   | _,_,_=>none:=rfl
theorem aopA_cnv (src dst:TypeId) (x:Operand):aopA ti s (.convert src dst x)=match ti src,ti dst,evO s x with
   | some a,some b,some (.o (.c (.t (.v (.int _ n)))))=>match a.k,b.k with
     | .int _,.int k=>some (Fits k n,scal (.int k n),s.h,s.nx)
     | _,_=>none
   | _,_,_=>none:=rfl
@[go_sem] theorem aop_convert (src dst:TypeId) (x:Operand):aop ti s (.convert src dst x)=ob (ti src) fun a=>ob (ti dst) fun b=>ob (ev1 s x) fun q=>ob (cnv1 ti s a.k b.k q) fun r=>some (r.1,.o r.2,s.h,s.nx):=by
 unfold aop
 rw [aopB_cnv,aopA_cnv];unfold ev1
 rcases ti src with _|⟨a,_,_,_⟩<;>(try rfl)
 rcases ti dst with _|⟨b,_,_,_⟩<;>(try rfl)
 rcases evO s x with _|((q|_)|_)<;>(try rfl)
 · cases q with
   | t x =>
     cases x with
     | v v=>cases v<;>cases a<;>cases b<;>rfl
     | sl _ _ _=>cases a<;>cases b<;>rfl
     | ptr _ _=>cases a<;>cases b<;>rfl
   | ptr _ _ _ _=>cases a<;>cases b<;>rfl
   | tp _ _ _=>cases a<;>cases b<;>rfl
   | mp _=>cases a<;>cases b<;>rfl
   | ch _=>cases a<;>cases b<;>rfl
   | fp _ _ _ _ _ _=>cases a<;>cases b<;>rfl
   | sl h wd o n =>
     cases a<;>cases b<;>(try rfl)
     rename_i e
     match wd,n with
     | 0,_=>rfl
     | 1,0=>rfl
     | 1,1 =>
       show (match (match ti e,look h s.h with|some te,some (.row 1 m f)=>(match te.k,f o 0 with|.int .u8,.t (.v (.int .u8 n))=>some (o < m,AV.o (.c (.t (.v (.string ⟨#[UInt8.ofNat n.toNat]⟩)))),s.h,s.nx)|_,_=>none)|_,_=>none) with|some r=>some r|none=>none)=ob (ob (ti e) fun te=>ob (look h s.h) fun r=>ob (row1 r) fun r=>ob (ku8 te.k) fun _=>ob (by1 (r.2 o 0)) fun n=>some (o < r.1,A1.c (.t (.v (.string ⟨#[UInt8.ofNat n.toNat]⟩))))) fun r=>some (r.1,AV.o r.2,s.h,s.nx)
       generalize ti e=q1
       generalize look h s.h=q2
       rcases q1 with _|te
       · rcases q2 with _|(_|_|_|_)<;>rfl
       rcases q2 with _|(_|⟨wd,m,f⟩|_|_|_)
       · rfl
       · rfl
       rotate_left
       · rfl
       · rfl
       · rfl
       match wd with
       | 0=>rfl
       | 1 =>
         obtain ⟨k,_,_,_,_,_⟩:=te
         show (match (match k,f o 0 with|.int .u8,.t (.v (.int .u8 n))=>some (o < m,AV.o (.c (.t (.v (.string ⟨#[UInt8.ofNat n.toNat]⟩)))),s.h,s.nx)|_,_=>none) with|some r=>some r|none=>none)=ob (ob (ku8 k) fun _=>ob (by1 (f o 0)) fun n=>some (o < m,A1.c (.t (.v (.string ⟨#[UInt8.ofNat n.toNat]⟩))))) fun r=>some (r.1,AV.o r.2,s.h,s.nx)
         generalize f o 0=z
         rcases z with (v|_|_)|_|_|_|_|_|_
         rotate_left
         iterate 8 (cases k<;>(try rfl)<;>(rename_i kk;cases kk<;>rfl))
         cases v<;>cases k<;>(try rfl)<;>(rename_i k1 _ k2;cases k1<;>cases k2<;>rfl)
       | wd+2=>rfl
     | 1,n+2=>rfl
     | wd+2,_=>rfl
 · cases a<;>cases b<;>rfl
@[go_sem] theorem aop_fieldAddr (t:TypeId) (x:Operand) (f:Nat):aop ti s (.fieldAddr t x f)=ob (ev1 s x) fun a=>ob (fieldA ti t f a) fun r=>some (True,.o r,s.h,s.nx):=by
 rw [old_aop_fieldAddr];unfold ev1
 rcases evO s x with _|(a|_)<;>(try rfl)
 dsimp only [ob,one]
 rcases fieldA ti t f a with _|_<;>rfl
@[go_sem] theorem aop_field (t:TypeId) (x:Operand) (f:Nat):aop ti s (.field t x f)=ob (ev1 s x) fun a=>ob (fldA ti t f a) fun r=>some (True,.o r,s.h,s.nx):=by
 rw [old_aop_field];unfold ev1
 rcases evO s x with _|(a|_)<;>(try rfl)
 dsimp only [ob,one]
 rcases fldA ti t f a with _|_<;>rfl
@[go_sem] theorem aop_indexAddr (t:TypeId) (x i:Operand):aop ti s (.indexAddr t x i)=ob (ev1 s x) fun a=>ob (ev1 s i) fun b=>ob (indexA ti t a b) fun r=>some (r.1,.o r.2,s.h,s.nx):=by
 rw [old_aop_indexAddr];unfold ev1
 rcases evO s x with _|(a|_)<;>(try rfl)
 rcases evO s i with _|(b|_)<;>(try rfl)
 dsimp only [ob,one]
 rcases indexA ti t a b with _|⟨_,_⟩<;>rfl
@[go_sem] theorem aop_slice (t:TypeId) (x:Operand) (lo hi:Option Operand):aop ti s (.slice t x lo hi none)=ob (ev1 s x) fun a=>ob (sliceA ti t s a lo hi) fun r=>some (r.1,.o r.2,s.h,s.nx):=by
 rw [old_aop_slice];unfold ev1
 rcases evO s x with _|(a|_)<;>(try rfl)
 dsimp only [ob,one]
 rcases sliceA ti t s a lo hi with _|⟨_,_⟩<;>rfl
@[go_sem] theorem aop_makeSlice (t:TypeId) (l c:Operand):aop ti s (.makeSlice t l c)=ob (ev1 s l) fun a=>ob (ev1 s c) fun b=>ob (makeA ti t a b) fun r=>some (r.1,.o (.c (.sl s.nx r.2.1 0 r.2.2.1)),(s.nx,.row r.2.1 r.2.2.1 r.2.2.2) ::s.h,s.nx+1):=by
 rw [old_aop_makeSlice];unfold ev1
 rcases evO s l with _|(a|_)<;>(try rfl)
 rcases evO s c with _|(b|_)<;>(try rfl)
 dsimp only [ob,one]
 rcases makeA ti t a b with _|⟨_,_,_,_⟩<;>rfl
def tu1:AV→Option (List A1)
 | .tup l=>some l
 | _=>none
@[go_sem] theorem aop_extract (x:Operand) (i:Nat):aop ti s (.extract x i)=ob (evO s x) fun v=>ob (tu1 v) fun l=>ob l[i]? fun v=>some (True,.o v,s.h,s.nx):=by
 rw [old_aop_extract]
 rcases evO s x with _|(_|l)<;>(try rfl)
 dsimp only [ob,tu1]
 rcases l[i]? with _|_<;>rfl
@[go_sem] theorem aop_len (x:Operand) (t:TypeId):aop ti s (.call ⟨.builtin .len,⟨[x]⟩,⟨[t]⟩⟩)=ob (ev1 s x) fun a=>ob (lenA ti t a) fun r=>some (True,scal r,s.h,s.nx):=by
 rw [old_aop_len];unfold ev1
 rcases evO s x with _|(a|_)<;>(try rfl)
 dsimp only [ob,one]
 rcases lenA ti t a with _|_<;>rfl
@[go_sem] theorem aop_append (x y:Operand) (t xt:TypeId):aop ti s (.call ⟨.builtin .append,⟨[x,y]⟩,⟨[t,xt]⟩⟩)=ob (ev1 s x) fun a=>ob (ev1 s y) fun b=>ob (appendA ti s.h t xt a b) fun r=>some (r.1,.o (.c (.sl s.nx r.2.1 0 r.2.2.1)),(s.nx,.row r.2.1 r.2.2.1 r.2.2.2.1) ::r.2.2.2.2,s.nx+1):=by
 rw [old_aop_append];unfold ev1
 rcases evO s x with _|(a|_)<;>(try rfl)
 rcases evO s y with _|(b|_)<;>(try rfl)
 dsimp only [ob,one]
 rcases appendA ti s.h t xt a b with _|⟨_,_,_,_,_⟩<;>rfl
@[go_sem] theorem aop_copy (x y:Operand) (t xt:TypeId):aop ti s (.call ⟨.builtin .copy,⟨[x,y]⟩,⟨[t,xt]⟩⟩)=ob (ev1 s x) fun a=>ob (ev1 s y) fun b=>ob (copyA ti s.h t a b) fun r=>some (r.1,scal r.2.1,r.2.2,s.nx):=by
 rw [old_aop_copy];unfold ev1
 rcases evO s x with _|(a|_)<;>(try rfl)
 rcases evO s y with _|(b|_)<;>(try rfl)
 dsimp only [ob,one]
 rcases copyA ti s.h t a b with _|⟨_,_,_⟩<;>rfl
attribute [go_sem] kint tu1
def fn1:A1→Option (FuncId × List A1 × List A1)
 | .c (.t (.v (.func (.func f) ⟨[]⟩ ⟨[]⟩)))=>some (f,[],[])
 | .c (.fp false f h wd i j)=>some (f,[],[.c (.ptr h wd i j)])
 | .c (.fp true f h wd i j)=>some (f,[.c (.ptr h wd i j)],[])
 | _=>none
@[go_sem] theorem callA_call (x:Operand) (args:List Operand) (tys:Array TypeId):callA ti s (.call ⟨.value x,⟨args⟩,tys⟩)=ob (ev1 s x) fun a=>ob (fn1 a) fun f=>ob (argsA s args) fun l=>some (f.1,f.2.1++(l++f.2.2)):=by
 rw [old_callA_call];unfold ev1
 rcases evO s x with _|((q|_)|_)<;>(try rfl)
 rcases q with (v|_|_)|_|_|_|_|_|_<;>(try rfl)
 · cases v<;>(try rfl)
   rename_i fn fi ca
   rcases fi with ⟨_|_⟩<;>rcases ca with ⟨_|_⟩<;>cases fn<;>(try rfl)
   dsimp only [ob,one,fn1]
   rcases argsA s args with _|l<;>(try rfl)
   simp
 · rename_i q _ _ _ _ _
   cases q<;>dsimp only [ob,one,fn1]<;>rcases argsA s args with _|l<;>(try rfl)
   simp
attribute [go_sem] fn1
def pt1:A1→Option (Nat × Nat × Nat × Nat)
 | .c (.ptr h wd i j)=>some (h,wd,i,j)
 | _=>none
attribute [go_sem] pt1
theorem aopA_mf (f:Fn) (x y:Array Operand):aopA ti s (.makeFunc f x y)=none:=rfl
@[go_sem] theorem aop_bound (f:FuncId) (x:Operand):aop ti s (.makeFunc (.func f) ⟨[x]⟩ ⟨[]⟩)=ob (ev1 s x) fun a=>ob (pt1 a) fun q=>some (True,.o (.c (.fp true f q.1 q.2.1 q.2.2.1 q.2.2.2)),s.h,s.nx):=by
 unfold aop
 show (match (match evO s x with
   | some (.o (.c (.ptr h wd i j)))=>some (True,.o (.c (.fp true f h wd i j)),s.h,s.nx)
   | _=>none:Option (Prop × AV × Heap × Nat)) with|some r=>some r|none=>aopA ti s (.makeFunc (.func f) ⟨[x]⟩ ⟨[]⟩))=_
 rw [aopA_mf]
 unfold ev1
 rcases evO s x with _|((q|_)|_)
 · rfl
 · cases q<;>rfl
 · rfl
 · rfl
@[go_sem] theorem aop_closure (f:FuncId) (x:Operand):aop ti s (.makeFunc (.func f) ⟨[]⟩ ⟨[x]⟩)=ob (ev1 s x) fun a=>ob (pt1 a) fun q=>some (True,.o (.c (.fp false f q.1 q.2.1 q.2.2.1 q.2.2.2)),s.h,s.nx):=by
 unfold aop
 show (match (match evO s x with
   | some (.o (.c (.ptr h wd i j)))=>some (True,.o (.c (.fp false f h wd i j)),s.h,s.nx)
   | _=>none:Option (Prop × AV × Heap × Nat)) with|some r=>some r|none=>aopA ti s (.makeFunc (.func f) ⟨[]⟩ ⟨[x]⟩))=_
 rw [aopA_mf]
 unfold ev1
 rcases evO s x with _|((q|_)|_)
 · rfl
 · cases q<;>rfl
 · rfl
 · rfl
@[go_sem] theorem aop_func (f:FuncId):aop ti s (.makeFunc (.func f) ⟨[]⟩ ⟨[]⟩)=some (True,.o (.c (.t (.v (.func (.func f) #[] #[])))),s.h,s.nx):=rfl
def mp1:A1→Option Nat
 | .c (.mp h)=>some h
 | _=>none
def i64:A1→Option Int
 | .c (.t (.v (.int .i64 n)))=>some n
 | _=>none
def rawm:AObj→Option (Array MapEntry × Nat)
 | .raw (.map es c)=>some (es,c)
 | _=>none
def kmp:TK→Option (Nat × Nat)
 | .mp k e=>some (k,e)
 | _=>none
def kst:TK→Option Unit
 | .st _=>some ()
 | _=>none
def karr:TK→Option (Nat × Nat)
 | .arr n e=>some (n,e)
 | _=>none
def emp:A1→Option Unit
 | .g []=>some ()
 | _=>none
def grp:A1→Option (List Cell)
 | .g l=>some l
 | _=>none
def ifc:A1→Option Nat
 | .c (.t (.v (.iface d (.agg ⟨[]⟩))))=>some d
 | _=>none
def noz:List Value→Option Unit
 | []=>some ()
 | _=>none
attribute [go_sem] mp1 i64 rawm kmp kst karr emp grp ifc noz intK
@[go_sem] theorem aop_makeMap (t:TypeId) (x:Operand):aop ti s (.makeMap t (some x))=ob (ti t) fun tx=>ob (ev1 s x) fun q=>ob (in1 q) fun _=>ob (kmp tx.k) fun _=>some (True,.o (.c (.mp s.nx)),(s.nx,.raw (.map #[] 0)) ::s.h,s.nx+1):=by
 unfold ev1 aop aopB aopA;dsimp only
 rcases ti t with _|⟨k,_,_,_,_,_⟩<;>(try rfl)
 rcases evO s x with _|((_|_)|_)<;>(try rfl)
 rename_i q
 rcases q with (x|_|_)|_|_|_|_|_|_<;>(try rfl)
 cases x<;>(try rfl)
 cases k<;>rfl
@[go_sem] theorem aop_lookup (t:TypeId) (x i:Operand):aop ti s (.lookup t x i false)=ob (ti t) fun tx=>ob (ev1 s x) fun m=>ob (mp1 m) fun h=>ob (ev1 s i) fun k=>ob (i64 k) fun k=>ob (kmp tx.k) fun ke=>ob (look h s.h) fun o=>ob (rawm o) fun es=>ob (ti ke.1) fun tk=>ob (ti ke.2) fun _=>obf (intK tk.k) (some (intKeys es.1.toList=true∧(fdI k es.1.toList 0).isSome=true,.o (.c (.t (.v (.int .i64 (lkI k es.1.toList))))),s.h,s.nx)):=by
 unfold ev1 aop aopB aopA;dsimp only
 rcases ti t with _|⟨k,_,_,_,_,_⟩<;>(try rfl)
 rcases evO s x with _|((_|_)|_)<;>(try rfl)
 rename_i q
 cases q<;>(try rfl)
 rename_i h
 rcases evO s i with _|((_|_)|_)<;>(try rfl)
 rename_i q
 rcases q with (x|_|_)|_|_|_|_|_|_<;>(try rfl)
 cases x<;>(try rfl)
 rename_i kk n
 cases kk<;>(try rfl)
 cases k<;>(try rfl)
 dsimp only [ob,one,mp1,i64,kmp]
 rcases look h s.h with _|(_|_|o)<;>(try rfl)
 cases o<;>(try rfl)
 rename_i ke el es cl
 dsimp only [ob,rawm]
 rcases ti ke with _|tk<;>(try rfl)
 rcases ti el with _|te<;>(try rfl)
 dsimp only [ob,obf]
 cases intK tk.k<;>rfl
@[go_sem] theorem aop_mapUpdate (t:TypeId) (x i y:Operand):aop ti s (.mapUpdate t x i y)=ob (ti t) fun tx=>ob (ev1 s x) fun m=>ob (mp1 m) fun h=>ob (ev1 s i) fun k=>ob (i64 k) fun k=>ob (ev1 s y) fun n=>ob (i64 n) fun n=>ob (kmp tx.k) fun ke=>ob (look h s.h) fun o=>ob (rawm o) fun es=>ob (ti ke.1) fun tk=>obf (intK tk.k) (some (intKeys es.1.toList=true,.tup [],upd h (.raw (updM es.1 es.2 k n)) s.h,s.nx)):=by
 unfold ev1 aop aopB aopA;dsimp only
 rcases ti t with _|⟨k,_,_,_,_,_⟩<;>(try rfl)
 rcases evO s x with _|((_|_)|_)<;>(try rfl)
 rename_i q
 cases q<;>(try rfl)
 rename_i h
 rcases evO s i with _|((_|_)|_)<;>(try rfl)
 rename_i q
 rcases q with (x|_|_)|_|_|_|_|_|_<;>(try rfl)
 cases x<;>(try rfl)
 rename_i kk n
 cases kk<;>(try rfl)
 rcases evO s y with _|((_|_)|_)<;>(try rfl)
 rename_i q
 rcases q with (x|_|_)|_|_|_|_|_|_<;>(try rfl)
 cases x<;>(try rfl)
 rename_i kk n
 cases kk<;>(try rfl)
 cases k<;>(try rfl)
 dsimp only [ob,one,mp1,i64,kmp]
 rcases look h s.h with _|(_|_|o)<;>(try rfl)
 cases o<;>(try rfl)
 rename_i ke el es cl
 dsimp only [ob,rawm]
 rcases ti ke with _|tk<;>(try rfl)
 dsimp only [ob,obf]
 cases intK tk.k<;>rfl
@[go_sem] theorem aop_makeInterface (t:TypeId) (x:Operand):aop ti s (.makeInterface t x)=ob (ti t) fun tx=>ob (ev1 s x) fun q=>ob (emp q) fun _=>ob (kst tx.k) fun _=>some (True,.o (.c (.t (.v (.iface t (.agg ⟨[]⟩))))),s.h,s.nx):=by
 unfold ev1 aop aopB aopA;dsimp only
 rcases ti t with _|⟨k,_,_,_,_,_⟩<;>(try rfl)
 rcases evO s x with _|((_|l)|_)<;>(try rfl)
 cases l<;>(try rfl)
 cases k<;>rfl
@[go_sem] theorem aop_typeAssert (xt t:TypeId) (x:Operand):aop ti s (.typeAssert x xt t true)=ob (ti t) fun tx=>ob (ev1 s x) fun q=>ob (ifc q) fun d=>ob (kst tx.k) fun _=>ob (noz tx.zero) fun _=>some (True,.tup [.g [],.c (.t (.v (.bool (decide (d=t)))))],s.h,s.nx):=by
 unfold ev1 aop aopB aopA;dsimp only
 rcases ti t with _|⟨k,_,_,z,_,_⟩<;>(try rfl)
 rcases evO s x with _|((q|l)|_)<;>(try rfl)
 rcases q with (x|_|_)|_|_|_|_|_|_<;>(try rfl)
 cases x<;>(try rfl)
 rename_i d v
 cases v<;>(try rfl)
 rename_i cs
 obtain ⟨l⟩:=cs
 cases l<;>(try rfl)
 cases k<;>(try rfl)
 cases z<;>rfl
def idx1 (ti:Nat→Option TI):TK→A1→Int→Option (Prop × A1)
 | .arr len e,.g l,n=>ob (ti e) fun ex=>ob (partA ex l (n.toNat * ex.size)) fun r=>some (0≤n∧n < len,r)
 | .str,.c (.t (.v (.string b))),n=>some (0≤n∧n < b.size,.c (.t (.v (.int .u8 (b.data.toList.getD n.toNat 0).toNat))))
 | _,_,_=>none
attribute [go_sem] idx1
theorem aopB_idx (t:TypeId) (x i:Operand):aopB ti s (.index t x i)=match ti t,evO s x,evO s i with
   | some tx,some (.o (.c (.t (.v (.string b))))),some (.o (.c (.t (.v (.int _ n)))))=>match tx.k with
     | .str=>some (0≤n∧n < b.size,.o (.c (.t (.v (.int .u8 (b.data.toList.getD n.toNat 0).toNat)))),s.h,s.nx)
     | _=>none
   | some tx,some (.o (.g l)),some (.o (.c (.t (.v (.int _ n)))))=>match tx.k with
     | .arr len e=>match ti e with
       | some ex=>match partA ex l (n.toNat * ex.size) with
         | some r=>some (0≤n∧n < len,.o r,s.h,s.nx)
         | none=>none
       | none=>none
     | _=>none
   | _,_,_=>none:=rfl
theorem aopA_idx (t:TypeId) (x i:Operand):aopA ti s (.index t x i)=none:=rfl
@[go_sem] theorem aop_index (t:TypeId) (x i:Operand):aop ti s (.index t x i)=ob (ti t) fun tx=>ob (ev1 s x) fun q=>ob (ev1 s i) fun n=>ob (in1 n) fun n=>ob (idx1 ti tx.k q n.2) fun r=>some (r.1,.o r.2,s.h,s.nx):=by
 unfold aop
 rw [aopB_idx,aopA_idx];unfold ev1
 rcases ti t with _|⟨k,_,_,z,_,_⟩<;>(try rfl)
 rcases evO s x with _|((q|l)|_)<;>(try rfl)
 · rcases evO s i with _|((u|_)|_)<;>(try (rcases q with (x|_|_)|_|_|_|_|_|_<;>(try rfl)<;>cases x<;>rfl))
   rcases u with (y|_|_)|_|_|_|_|_|_<;>(try (rcases q with (x|_|_)|_|_|_|_|_|_<;>(try rfl)<;>cases x<;>rfl))
   cases y<;>(try (rcases q with (x|_|_)|_|_|_|_|_|_<;>(try rfl)<;>cases x<;>rfl))
   rcases q with (x|_|_)|_|_|_|_|_|_<;>(try (cases k<;>rfl))
   cases x<;>cases k<;>rfl
 · rcases evO s i with _|((u|_)|_)<;>(try rfl)
   rcases u with (y|_|_)|_|_|_|_|_|_<;>(try rfl)
   cases y<;>(try rfl)
   cases k<;>(try rfl)
   rename_i kk n len e
   dsimp only [ob,one,idx1,in1]
   rcases ti e with _|ex<;>(try rfl)
   dsimp only [ob]
   rcases partA ex l (n.toNat * ex.size) with _|_<;>rfl
@[go_sem] theorem aop_xor (t:TypeId) (x y:Operand) (yt:TypeId):aop ti s (.binOp .xor t x y yt)=ob (ev1 s x) fun a=>ob (i64 a) fun a=>ob (ev1 s y) fun b=>ob (i64 b) fun b=>some (True,scal (.int .i64 (xorI a b)),s.h,s.nx):=by
 have hA:aopA ti s (.binOp .xor t x y yt)=none:=by
   unfold aopA;dsimp only
   rcases evO s x with _|(a|_)<;>(try rfl)
   rcases evO s y with _|(b|_)<;>(try rfl)
   dsimp only
   have:cmpA ti .xor t a b=none:=by
     unfold cmpA
     rcases ti t with _|⟨k,_,_,_,c,_⟩<;>(try rfl)
     have hbin:∀ a b,binA .xor a b=none:=by
       intro a b
       unfold binA
       split<;>(try rfl)
       rename_i k a k' b
       cases decide (k=k')<;>rfl
     cases k<;>(try rfl)
     all_goals (try simp only [cond_eq_ite])
     all_goals (repeat' (first|rfl|exact hbin _ _|split))
   rw [this]
 unfold ev1 aop
 rw [hA]
 unfold aopB;dsimp only
 rcases evO s x with _|((q|l)|_)<;>(try rfl)
 rcases q with (v|_|_)|_|_|_|_|_|_<;>(try rfl)
 cases v<;>(try rfl)
 rename_i kk n
 cases kk<;>(try rfl)
 rcases evO s y with _|((q|l)|_)<;>(try rfl)
 rcases q with (v|_|_)|_|_|_|_|_|_<;>(try rfl)
 cases v<;>(try rfl)
 rename_i kk n
 cases kk<;>rfl
@[go_sem] theorem aop_max (x y:Operand) (tys:Array TypeId):aop ti s (.call ⟨.builtin .max,⟨[x,y]⟩,tys⟩)=ob (ev1 s x) fun a=>ob (i64 a) fun a=>ob (ev1 s y) fun b=>ob (i64 b) fun b=>some (True,scal (.int .i64 (if a < b then b else a)),s.h,s.nx):=by
 unfold ev1 aop aopB aopA;dsimp only
 rcases evO s x with _|((q|l)|_)<;>(try rfl)
 rcases q with (v|_|_)|_|_|_|_|_|_<;>(try rfl)
 cases v<;>(try rfl)
 rename_i kk n
 cases kk<;>(try rfl)
 rcases evO s y with _|((q|l)|_)<;>(try rfl)
 rcases q with (v|_|_)|_|_|_|_|_|_<;>(try rfl)
 cases v<;>(try rfl)
 rename_i kk n
 cases kk<;>rfl
@[go_sem] theorem aop_min (x y:Operand) (tys:Array TypeId):aop ti s (.call ⟨.builtin .min,⟨[x,y]⟩,tys⟩)=ob (ev1 s x) fun a=>ob (i64 a) fun a=>ob (ev1 s y) fun b=>ob (i64 b) fun b=>some (True,scal (.int .i64 (if b < a then b else a)),s.h,s.nx):=by
 unfold ev1 aop aopB aopA;dsimp only
 rcases evO s x with _|((q|l)|_)<;>(try rfl)
 rcases q with (v|_|_)|_|_|_|_|_|_<;>(try rfl)
 cases v<;>(try rfl)
 rename_i kk n
 cases kk<;>(try rfl)
 rcases evO s y with _|((q|l)|_)<;>(try rfl)
 rcases q with (v|_|_)|_|_|_|_|_|_<;>(try rfl)
 cases v<;>(try rfl)
 rename_i kk n
 cases kk<;>rfl
@[go_sem] theorem callA_invoke (x:Operand) (n:String) (args:List Operand) (tys:Array TypeId):callA ti s (.call ⟨.invoke x n,⟨args⟩,tys⟩)=ob (ev1 s x) fun a=>ob (ifc a) fun d=>ob (argsA s args) fun l=>ob (ti d) fun td=>ob (mth n td.meth) fun f=>some (f,.g [] ::l):=by
 unfold ev1 callA;dsimp only
 rcases evO s x with _|((q|l)|_)<;>(try rfl)
 rcases q with (v|_|_)|_|_|_|_|_|_<;>(try rfl)
 cases v<;>(try rfl)
 rename_i d v
 cases v<;>(try rfl)
 rename_i cs
 obtain ⟨l⟩:=cs
 cases l<;>(try rfl)
 rcases argsA s args with _|l<;>(try rfl)
 dsimp only [ob,one,ifc]
 rcases ti d with _|td<;>(try rfl)
 dsimp only [ob]
 rcases mth n td.meth with _|f<;>rfl
@[go_sem] theorem mth_same (n:String) (f:Nat) (r:List (String × Nat)):mth n ((n,f) ::r)=some f:=by simp [mth]
@[go_sem] theorem callA_makeMap (t:TypeId) (x:Option Operand):callA ti s (.makeMap t x)=none:=rfl
@[go_sem] theorem callA_lookup (t:TypeId) (x i:Operand) (c:Bool):callA ti s (.lookup t x i c)=none:=rfl
@[go_sem] theorem callA_mapUpdate (t:TypeId) (x i y:Operand):callA ti s (.mapUpdate t x i y)=none:=rfl
@[go_sem] theorem callA_makeInterface (t:TypeId) (x:Operand):callA ti s (.makeInterface t x)=none:=rfl
@[go_sem] theorem callA_typeAssert (xt t:TypeId) (x:Operand) (c:Bool):callA ti s (.typeAssert x xt t c)=none:=rfl
@[go_sem] theorem callA_index (t:TypeId) (x i:Operand):callA ti s (.index t x i)=none:=rfl
@[go_sem] theorem callA_builtin (b:Builtin) (args:Array Operand) (tys:Array TypeId):callA ti s (.call ⟨.builtin b,args,tys⟩)=none:=rfl
@[go_sem] theorem callA_move (x:Operand):callA ti s (.move x)=none:=rfl
@[go_sem] theorem callA_assign (x:Operand):callA ti s (.assign x)=none:=rfl
@[go_sem] theorem callA_pick (c a b:Operand):callA ti s (.pick c a b)=none:=rfl
@[go_sem] theorem callA_alloc (t:TypeId):callA ti s (.alloc t)=none:=rfl
@[go_sem] theorem callA_box (t:TypeId) (x:Operand):callA ti s (.box t x)=none:=rfl
@[go_sem] theorem callA_build (t:TypeId) (parts:Array (Nat × Operand)):callA ti s (.build t parts)=none:=rfl
@[go_sem] theorem callA_buildSlice (t:TypeId) (n:Nat) (parts:Array (Nat × Operand)):callA ti s (.buildSlice t n parts)=none:=rfl
@[go_sem] theorem callA_load (t:TypeId) (x:Operand):callA ti s (.load t x)=none:=rfl
@[go_sem] theorem callA_store (t:TypeId) (a x:Operand):callA ti s (.store t a x)=none:=rfl
@[go_sem] theorem callA_nilCheck (x:Operand):callA ti s (.nilCheck x)=none:=rfl
@[go_sem] theorem callA_binOp (op:BinOp) (t:TypeId) (x y:Operand) (yt:TypeId):callA ti s (.binOp op t x y yt)=none:=rfl
@[go_sem] theorem callA_unOp (op:UnOp) (t:TypeId) (x:Operand):callA ti s (.unOp op t x)=none:=rfl
@[go_sem] theorem callA_convert (src dst:TypeId) (x:Operand):callA ti s (.convert src dst x)=none:=rfl
@[go_sem] theorem callA_fieldAddr (t:TypeId) (x:Operand) (f:Nat):callA ti s (.fieldAddr t x f)=none:=rfl
@[go_sem] theorem callA_field (t:TypeId) (x:Operand) (f:Nat):callA ti s (.field t x f)=none:=rfl
@[go_sem] theorem callA_indexAddr (t:TypeId) (x i:Operand):callA ti s (.indexAddr t x i)=none:=rfl
@[go_sem] theorem callA_slice (t:TypeId) (x:Operand) (lo hi mx:Option Operand):callA ti s (.slice t x lo hi mx)=none:=rfl
@[go_sem] theorem callA_makeSlice (t:TypeId) (l c:Operand):callA ti s (.makeSlice t l c)=none:=rfl
@[go_sem] theorem callA_extract (x:Operand) (i:Nat):callA ti s (.extract x i)=none:=rfl
end
attribute [go_sem] wantA argsA evO cst look rem upd partsA cmpA eqL binA numB isNil loadA storeA stc tab fieldA fldA partA indexA zcells fillA sizes buildA litA litObj reps appendA lenA copyA boundA sliceA St.put A1.cells scal nilOk TI.agg resL tupA inT minus thenQ blockQ finQ
@[go_sem] theorem nbeq (a b:Nat):Nat.beq a b=(a == b):=by
 cases h:Nat.beq a b with
 | true=>have:=Nat.eq_of_beq_eq_true h;simp [this]
 | false=>have:=Nat.ne_of_beq_eq_false h;simp [this]
@[go_sem] theorem nble (a b:Nat):Nat.ble a b=decide (a≤b):=by
 cases h:Nat.ble a b with
 | true=>have:=Nat.le_of_ble_eq_true h;simp [this]
 | false => have:¬ a≤b:=fun hh=>by rw [Nat.ble_eq_true_of_le hh] at h;cases h
            simp [this]
@[go_sem] theorem beq_add (k n:Nat):(k == k+(n+1))=false:=by simp
@[go_sem] theorem add_beq (k n:Nat):(k+(n+1) == k)=false:=by simp
attribute [go_sem] cond_true cond_false Option.map plain
attribute [go_sem] List.all List.drop List.take List.length List.map List.cons_append List.nil_append List.append_nil List.getElem?_cons_zero List.getElem?_cons_succ List.getElem?_nil List.toList_toArray
attribute [go_sem] List.getD_cons_zero List.getD_cons_succ List.getD_nil exists_const
attribute [go_sem] true_and and_true eq_self Bool.and_self Bool.true_and Bool.and_true Bool.not_true Bool.not_false Bool.or_true Bool.true_or Bool.or_false Bool.false_or Bool.false_and Bool.and_false
attribute [go_sem] isCv cvS cvOk
attribute [go_sem] AObj.void clr clrL keepL memN pickH dropH putL loadK avle a1le sle rn tupA All2 hsub allP A1.flat AV.flat hflat
@[go_sem] theorem tle_self {x:TV}:tle x x=True:=by simp [tle_refl]
def rle (H:Heap) (fz:Nat→Prop) (τ:List (Nat × Nat)) (N wd n:Nat) (f g:Nat→Nat→Cell):Prop:=∀ i,i < n→∀ j,j < wd→cle H fz τ N (f i j) (g i j)
def tlr (H:Heap) (fz:Nat→Prop) (n wd s m:Nat) (f:Nat→Nat→Cell) (g:Nat→Nat→TV):Prop:=∀ i,i < m→∀ j,j < wd→tof H fz n (f (s+i) j) (g i j)
def tlT (wd n:Nat) (f g:Nat→Nat→TV):Prop:=∀ i,i < n→∀ j,j < wd→tle (f i j) (g i j)
@[go_sem] theorem tlT_self {wd n:Nat} {f:Nat→Nat→TV}:tlT wd n f f=True:=by simp [tlT,tle_refl]
@[go_sem] theorem rle_none {H:Heap} {fz:Nat→Prop} {τ:List (Nat × Nat)} {N wd:Nat} {f g:Nat→Nat→Cell}:rle H fz τ N wd 0 f g=True:=by simp [rle]
@[go_sem] theorem tlr_none {H:Heap} {fz:Nat→Prop} {n wd s:Nat} {f:Nat→Nat→Cell} {g:Nat→Nat→TV}:tlr H fz n wd s 0 f g=True:=by simp [tlr]
@[go_sem] theorem tle_v {x y:Value}:tle (.v x) (.v y)=(x=y):=rfl
@[go_sem] theorem tle_v_sl {x:Value} {w n:Nat} {f:Nat→Nat→TV}:tle (.v x) (.sl w n f)=(x=.slice none 0 0∧n=0):=rfl
@[go_sem] theorem tle_sl {w n w' n':Nat} {f g:Nat→Nat→TV}:tle (.sl w n f) (.sl w' n' g)=(w=w'∧n=n'∧tlT w n f g):=rfl
@[go_sem] theorem tle_ptr {w w':Nat} {f g:Nat→TV}:tle (.ptr w f) (.ptr w' g)=(w=w'∧∀ j,j < w→tle (f j) (g j)):=rfl
@[go_sem] theorem tof_t {H:Heap} {fz:Nat→Prop} {n:Nat} {x y:TV}:tof H fz n (.t x) y=tle x y:=by cases n<;>rfl
def allIx (p:Nat→Cell→Prop):Nat→List Cell→Prop
 | _,[]=>True
 | k,c ::l=>p k c∧allIx p (k+1) l
theorem allIx_iff {p:Nat→Cell→Prop}:∀ {l:List Cell} {k:Nat},allIx p k l ↔ ∀ j c,l[j]? = some c→p (k+j) c
 | [],k=>by simp [allIx]
 | x ::l,k=>by
   simp only [allIx,allIx_iff (l:=l)]
   constructor
   · rintro ⟨h1,h2⟩ j c hj
     cases j with
     | zero=>simp at hj;subst hj;exact h1
     | succ j=>have:=h2 j c (by simpa using hj);rw [show k+(j+1)=k+1+j from by omega];exact this
   · intro h
     exact ⟨by simpa using h 0 x (by simp),fun j c hj=>by rw [show k+1+j=k+(j+1) from by omega];exact h (j+1) c (by simpa using hj)⟩
def tofR (H:Heap) (fz:Nat→Prop) (n wd s m:Nat) (g:Nat→Nat→TV):Option AObj→Prop
 | some (.row wd'' k f)=>wd''=wd∧s+m≤k∧tlr H fz n wd s m f g
 | some (.box l)=>s=0∧m * wd≤l.length∧allIx (fun k c=>tof H fz n c (g (k / wd) (k % wd))) 0 l
 | _=>False
def tofB (H:Heap) (fz:Nat→Prop) (n o w':Nat) (g:Nat→TV):Option AObj→Prop
 | some (.box l)=>o=0∧w'=l.length∧allIx (fun k c=>tof H fz n c (g k)) 0 l
 | _=>False
@[go_sem] theorem tof_sl {H:Heap} {fz:Nat→Prop} {n h wd s m wd' m':Nat} {g:Nat→Nat→TV}:tof H fz (n+1) (.sl h wd s m) (.sl wd' m' g)=(fz h∧wd=wd'∧m=m'∧tofR H fz n wd s m g (look h H)):=by
 simp only [tof]
 rcases look h H with _|(_|_|_)<;>(try rfl)
 simp only [tofR,allIx_iff,Nat.zero_add]
@[go_sem] theorem tof_ptr {H:Heap} {fz:Nat→Prop} {n h wd i j w':Nat} {g:Nat→TV}:tof H fz (n+1) (.ptr h wd i j) (.ptr w' g)=(fz h∧tofB H fz n (i * wd+j) w' g (look h H)):=by
 simp only [tof]
 rcases look h H with _|(_|_|_)<;>(try rfl)
 simp only [tofB,allIx_iff,Nat.zero_add]
attribute [go_sem] tofR tofB allIx
def rflat (wd n:Nat) (f:Nat→Nat→Cell):Prop:=∀ i,i < n→∀ j,j < wd→(f i j).flat
@[go_sem] theorem flat_v {x:Value}:(Cell.t (.v x)).flat=True:=rfl
@[go_sem] theorem flat_tsl {w n:Nat} {f:Nat→Nat→TV}:(Cell.t (.sl w n f)).flat=False:=rfl
@[go_sem] theorem flat_tptr {w:Nat} {f:Nat→TV}:(Cell.t (.ptr w f)).flat=False:=rfl
@[go_sem] theorem flat_ptr {h wd i j:Nat}:(Cell.ptr h wd i j).flat=True:=rfl
@[go_sem] theorem flat_sl {h wd s n:Nat}:(Cell.sl h wd s n).flat=True:=rfl
@[go_sem] theorem flat_mp {h:Nat}:(Cell.mp h).flat=True:=rfl
@[go_sem] theorem flat_ch {h:Nat}:(Cell.ch h).flat=True:=rfl
@[go_sem] theorem flat_fp {q:Bool} {f:FuncId} {h wd i j:Nat}:(Cell.fp q f h wd i j).flat=True:=rfl
@[go_sem] theorem flat_box {l:List Cell}:(AObj.box l).flat=allP Cell.flat l:=rfl
@[go_sem] theorem flat_row {wd n:Nat} {f:Nat→Nat→Cell}:(AObj.row wd n f).flat=rflat wd n f:=rfl
@[go_sem] theorem flat_raw {o:Obj}:(AObj.raw o).flat=True:=rfl
@[go_sem] theorem flat_tbx {e:TypeId} {l:List Cell}:(AObj.tbx e l).flat=allP Cell.flat l:=rfl
@[go_sem] theorem flat_glob {g:Nat} {v:Value}:(AObj.glob g v).flat=True:=rfl
@[go_sem] theorem rflat_none {wd:Nat} {f:Nat→Nat→Cell}:rflat wd 0 f=True:=by simp [rflat]
section
variable {H:Heap} {fz:Nat→Prop} {τ:List (Nat × Nat)} {N:Nat}
@[go_sem] theorem cle_t {x:Cell} {y:TV}:cle H fz τ N x (.t y)=tof H fz 6 x y:=by cases x<;>rfl
@[go_sem] theorem cle_ptr {h wd i j h' wd' i' j':Nat}:cle H fz τ N (.ptr h wd i j) (.ptr h' wd' i' j')=(h=rn τ h'∧h' < N∧i * wd+j=i' * wd'+j'):=rfl
@[go_sem] theorem cle_sl {h wd s n h' wd' s' n':Nat}:cle H fz τ N (.sl h wd s n) (.sl h' wd' s' n')=(h=rn τ h'∧h' < N∧wd=wd'∧s=s'∧n=n'):=rfl
@[go_sem] theorem cle_nil {h wd s n:Nat}:cle H fz τ N (.t (.v (.slice none 0 0))) (.sl h wd s n)=(n=0):=rfl
@[go_sem] theorem cle_tp {wd wd' j j':Nat} {f g:Nat→TV}:cle H fz τ N (.tp wd f j) (.tp wd' g j')=(wd=wd'∧j=j'∧∀ k,k < wd→tle (f k) (g k)):=rfl
@[go_sem] theorem cle_mp {h h':Nat}:cle H fz τ N (.mp h) (.mp h')=(h=rn τ h'∧h' < N):=rfl
@[go_sem] theorem cle_ch {h h':Nat}:cle H fz τ N (.ch h) (.ch h')=(h=rn τ h'∧h' < N):=rfl
@[go_sem] theorem cle_fp {q q':Bool} {f f':FuncId} {h wd i j h' wd' i' j':Nat}:cle H fz τ N (.fp q f h wd i j) (.fp q' f' h' wd' i' j')=(q=q'∧f=f'∧h=rn τ h'∧h' < N∧i * wd+j=i' * wd'+j'):=rfl
@[go_sem] theorem ole_box {l m:List Cell}:ole H fz τ N (.box l) (.box m)=All2 (cle H fz τ N) l m:=rfl
@[go_sem] theorem ole_row {wd n wd' n':Nat} {f g:Nat→Nat→Cell}:ole H fz τ N (.row wd n f) (.row wd' n' g)=(wd=wd'∧n'≤n∧rle H fz τ N wd n' f g):=rfl
@[go_sem] theorem ole_raw {o o':Obj}:ole H fz τ N (.raw o) (.raw o')=(o=o'):=rfl
@[go_sem] theorem ole_tbx {e e':TypeId} {l m:List Cell}:ole H fz τ N (.tbx e l) (.tbx e' m)=(e=e'∧All2 (cle H fz τ N) l m):=rfl
@[go_sem] theorem ole_glob {g g':Nat} {v v':Value}:ole H fz τ N (.glob g v) (.glob g' v')=(g=g'∧v=v'):=rfl
end
attribute [go_sem] implies_true and_self Value.bool.injEq Value.int.injEq Value.string.injEq List.mem_cons List.not_mem_nil or_false false_or or_true true_or not_false_eq_true not_true_eq_false false_and and_false
theorem mixed:Go.Proofs.Try.prog.follows .mixedOrders=true:=by kernel_rfl
theorem Fits.of {x:Int} (h1:-9223372036854775808≤x) (h2:x≤9223372036854775807):Fits .i64 x:=⟨h1,h2⟩
theorem allP_mem {α:Type} {p:α→Prop}:∀ {l:List α},allP p l→∀ x ∈ l,p x
 | [],_,x,hx=>by cases hx
 | y ::l,h,x,hx=>by
   rcases List.mem_cons.1 hx with e|e
   · rw [e];exact h.1
   · exact allP_mem h.2 x e
def isIn (h:Heap) (k:Nat):Prop:=match look k h with
 | some _=>True
 | none=>False
attribute [go_sem] isIn
@[go_sem] theorem rnF_nil (N h:Nat):rnF [] N h=N+h:=by simp [rnF]
@[go_sem] theorem rnF_zero (x:Nat) (σ:List Nat) (N:Nat):rnF (x ::σ) N 0=x:=by simp [rnF]
@[go_sem] theorem rnF_succ (x:Nat) (σ:List Nat) (N h:Nat):rnF (x ::σ) N (h+1)=rnF σ N h:=by simp [rnF]
attribute [go_sem] Cell.ren A1.ren AV.ren hren Nat.zero_add Nat.add_zero and_self
def liftT (f:Nat→Nat→TV):Nat→Nat→Cell:=fun i j=>.t (f i j)
def shF (s:Nat) (f:Nat→Nat→Cell):Nat→Nat→Cell:=fun i j=>f (s+i) j
def renF (g:Nat→Nat) (f:Nat→Nat→Cell):Nat→Nat→Cell:=fun i j=>(f i j).ren g
def mkF (z:List Cell):Nat→Nat→Cell:=fun _ j=>z.getD j (.t (.v (.bool false)))
def subT (s:Nat) (f:Nat→Nat→TV):Nat→Nat→TV:=fun i j=>f (s+i) j
def elemsR (wd s n:Nat):AObj→Option (Prop × Nat × Nat × (Nat→Nat→Cell))
 | .row wd' m f=>obf (Nat.beq wd wd') (some (s+n≤m,wd,n,shF s f))
 | _=>none
attribute [go_sem] elemsR
@[go_sem] theorem elemsA_tree {h:Heap} {wd n:Nat} {f:Nat→Nat→TV}:elemsA h (.c (.t (.sl wd n f)))=some (True,wd,n,liftT f):=rfl
@[go_sem] theorem elemsA_sl {h:Heap} {k wd s n:Nat}:elemsA h (.c (.sl k wd s n))=ob (look k h) (elemsR wd s n):=by
 simp only [elemsA]
 rcases look k h with _|(_|_|_|_)<;>rfl
@[go_sem] theorem ren_box {g:Nat→Nat} {l:List Cell}:(AObj.box l).ren g=.box (l.map (Cell.ren g)):=rfl
@[go_sem] theorem ren_row {g:Nat→Nat} {wd n:Nat} {f:Nat→Nat→Cell}:(AObj.row wd n f).ren g=.row wd n (renF g f):=rfl
@[go_sem] theorem ren_raw {g:Nat→Nat} {o:Obj}:(AObj.raw o).ren g=.raw o:=rfl
@[go_sem] theorem ren_tbx {g:Nat→Nat} {e:TypeId} {l:List Cell}:(AObj.tbx e l).ren g=.tbx e (l.map (Cell.ren g)):=rfl
@[go_sem] theorem ren_glob {g:Nat→Nat} {k:Nat} {v:Value}:(AObj.glob k v).ren g=.glob k v:=rfl
@[go_sem] theorem shF_zero {f:Nat→Nat→Cell}:shF 0 f=f:=by funext i j;unfold shF;rw [Nat.zero_add]
@[go_sem] theorem subT_zero {f:Nat→Nat→TV}:subT 0 f=f:=by funext i j;unfold subT;rw [Nat.zero_add]
def makeK (te:TI):A1→A1→Option (Prop × Nat × Nat × (Nat→Nat→Cell))
 | .c (.t (.v (.int _ n))),.c (.t (.v (.int _ m)))=>ob (zcells te) fun z=>obf (Nat.beq z.length te.size && Nat.ble 1 te.size && Nat.ble te.bytes 4096) (some (0≤n∧n=m∧m≤1000000,te.size,n.toNat,mkF z))
 | _,_=>none
def eltK:TK→Option Nat
 | .sli e=>some e
 | _=>none
attribute [go_sem] makeK eltK
@[go_sem] theorem makeA_eq {ti:Nat→Option TI} {t:Nat} {l c:A1}:makeA ti t l c=ob (ti t) fun tx=>ob (eltK tx.k) fun e=>ob (ti e) fun te=>makeK te l c:=by
 unfold makeA
 rcases ti t with _|⟨k,_,_,_,_⟩<;>(try rfl)
 cases k<;>(try rfl)
 rename_i e
 dsimp only [ob,eltK]
 rcases ti e with _|te<;>(try rfl)
 dsimp only
 rcases l with (l|_)|_<;>(try rfl)
 rcases l with l|_|_<;>(try rfl)
 cases l<;>(try rfl)
 rcases c with (c|_|_|_|_|_|_)|_<;>(try rfl)
 rcases c with c|_|_<;>(try rfl)
 cases c<;>(try rfl)
 dsimp only [makeK]
 rcases zcells te with _|z<;>rfl
def colC (k:Nat):Cell→Cell→List (Nat × Nat)
 | .sl h _ _ _,.sl h' _ _ _=>bif Nat.ble k h' then [(h',h)] else []
 | .ptr h _ _ _,.ptr h' _ _ _=>bif Nat.ble k h' then [(h',h)] else []
 | .t (.v (.slice none 0 0)),.sl h' _ _ _=>bif Nat.ble k h' then [(h',1000000+h')] else []
 | .mp h,.mp h'=>bif Nat.ble k h' then [(h',h)] else []
 | .ch h,.ch h'=>bif Nat.ble k h' then [(h',h)] else []
 | .fp _ _ h _ _ _,.fp _ _ h' _ _ _=>bif Nat.ble k h' then [(h',h)] else []
 | _,_=>[]
def colL (k:Nat):List Cell→List Cell→List (Nat × Nat)
 | x ::l,y ::m=>colC k x y++colL k l m
 | _,_=>[]
def colA (k:Nat):A1→A1→List (Nat × Nat)
 | .c x,.c y=>colC k x y
 | .g l,.g m=>colL k l m
 | _,_=>[]
def colAs (k:Nat):List A1→List A1→List (Nat × Nat)
 | x ::l,y ::m=>colA k x y++colAs k l m
 | _,_=>[]
def colV (k:Nat):AV→AV→List (Nat × Nat)
 | .o x,.o y=>colA k x y
 | .tup l,.tup m=>colAs k l m
 | _,_=>[]
def colO (k:Nat) (τ:List (Nat × Nat)) (m:List Cell):Option AObj→List (Nat × Nat)
 | some (.box l)=>τ++colL k l m
 | some (.tbx _ l)=>τ++colL k l m
 | _=>τ
def colH (k:Nat) (H:Heap):Heap→List (Nat × Nat)→List (Nat × Nat)
 | [],τ=>τ
 | (h',.box m) ::r,τ=>colH k H r (colO k τ m (look (rn τ h') H))
 | (_,.row _ _ _) ::r,τ=>colH k H r τ
 | (_,.raw _) ::r,τ=>colH k H r τ
 | (_,.glob _ _) ::r,τ=>colH k H r τ
 | (h',.tbx _ m) ::r,τ=>colH k H r (colO k τ m (look (rn τ h') H))
def colS (k:Nat) (v':AV):Option AV→List (Nat × Nat)
 | some v=>colV k v v'
 | none=>[]
def colT (k:Nat) (t:List (Nat × AV)):List (Nat × AV)→List (Nat × Nat)
 | []=>[]
 | (j,v') ::r=>colS k v' (look j t)++colT k t r
def nms (τ:List (Nat × Nat)):Heap→List Nat
 | []=>[]
 | (h',_) ::r=>rn τ h' ::nms τ r
def nodN:List Nat→Bool
 | []=>true
 | x ::r=>!memN x r && nodN r
def hlo (H:Heap) (fz τ:List (Nat × Nat)) (N:Nat) (fzl:List Nat) (o':AObj):Option AObj→Prop
 | some o=>ole H (fun h=>h ∈ fzl) τ N o o'
 | none=>o'.void=true
def hlx (H:Heap) (fz:List Nat) (τ:List (Nat × Nat)) (N:Nat):Heap→List Nat→Prop
 | (h',o') ::r,n ::ns=>Nat.blt h' N=true∧memN n fz=false∧hlo H τ τ N fz o' (look n H)∧hlx H fz τ N r ns
 | [],[]=>True
 | _,_=>False
theorem memN_iff {k:Nat}:∀ {l:List Nat},memN k l=false→k ∉ l
 | [],_=>by simp
 | j ::r,h=>by
   simp only [memN,cond_eq_ite] at h
   split at h
   · cases h
   · rename_i e
     have e:j ≠ k:=by simpa using e
     simp only [List.mem_cons,not_or]
     exact ⟨fun h=>e h.symm,memN_iff h⟩
theorem hlx_hle {H:Heap} {fz:List Nat} {τ:List (Nat × Nat)} {N:Nat}:∀ {H':Heap},nodN (nms τ H')=true→hlx H fz τ N H' (nms τ H')→hle H (fun h=>h ∈ fz) τ N H'
 | [],_,_=>trivial
 | (h',o') ::r,h1,h2=>by
   simp only [nms,nodN,Bool.and_eq_true,Bool.not_eq_true'] at h1
   simp only [nms,hlx] at h2
   obtain ⟨a1,a2,a3,a4⟩:=h2
   refine ⟨by simpa [Nat.blt_eq] using a1,memN_iff a2,?_,?_,hlx_hle h1.2 a4⟩
   · unfold hlo at a3
     exact a3
   · rw [List.all_eq_true]
     intro x hx
     have hx2:rn τ x.1 ∈ nms τ r:=by
       have:∀ {r:Heap},x ∈ r→rn τ x.1 ∈ nms τ r:=by
         intro r
         induction r with
         | nil=>intro h;cases h
         | cons y r ih =>
           intro h
           rcases List.mem_cons.1 h with e|e
           · rw [e];simp [nms]
           · simp [nms,ih e]
       exact this hx
     cases hb:Nat.beq (rn τ x.1) (rn τ h') with
     | false=>rfl
     | true =>
       have:=Nat.eq_of_beq_eq_true hb
       rw [this] at hx2
       exact absurd hx2 (memN_iff h1.1)
def finG (s:St) (fz:List Nat) (k k':Nat) (res:AV) (H':Heap) (l:List A1) (τ:List (Nat × Nat)):Prop :=
 allP (fun x:Nat × Nat=>Nat.ble k x.1=true) τ∧allP (isIn s.h) fz∧avle s.h (fun h=>h ∈ fz) τ k' (tupA l) res∧nodN (nms τ H')=true∧hlx s.h fz τ k' H' (nms τ H')
def finO (s:St) (fz:List Nat) (k k':Nat) (res:AV) (H':Heap):Option (Prop × List A1)→Prop
 | some (p,l)=>p∧finG s fz k k' res H' l (colH k s.h H' (colV k (tupA l) res))
 | none=>False
theorem isIn_some {H:Heap} {h:Nat} (hh:isIn H h):∃ o,look h H=some o:=by
 unfold isIn at hh
 split at hh
 · rename_i o ho;exact ⟨o,ho⟩
 · exact hh.elim
theorem Fin.auto {ti:Nat→Option TI} {rs:List ResultVar} {k:Nat} {res:AV} {H':Heap} {k':Nat} {s:St} (fz:List Nat) (h:finO s fz k k' res H' (resL ti s rs)):Fin ti rs k res H' k' s:=by
 unfold finO at h
 split at h
 · rename_i p l he
   obtain ⟨h1,h2,h3,h4,h5,h6⟩:=h
   exact ⟨_,fun h=>h ∈ fz,p,l,he,h1,fun x hx=>Nat.le_of_ble_eq_true (allP_mem h2 x hx),fun h hh=>isIn_some (allP_mem h3 h hh),h4,hlx_hle h5 h6⟩
 · exact h.elim
def sleG (s s':St) (fz:List Nat) (k:Nat) (τ:List (Nat × Nat)):Prop :=
 allP (fun x:Nat × Nat=>Nat.ble k x.1=true) τ∧Nat.ble k s'.nx=true∧allP (isIn s.h) fz∧sle s.h (fun h=>h ∈ fz) τ s'.nx s.t s'.t∧nodN (nms τ s'.h)=true∧hlx s.h fz τ s'.nx s'.h (nms τ s'.h)
theorem SLe.auto {c:Ctx} {s s':St} {k:Nat} (hk:c.k0=k) (fz:List Nat) (h:sleG s s' fz k (colH k s.h s'.h (colT k s.t s'.t))):SLe c s s':=by
 obtain ⟨h1,h2,h3,h4,h5,h6⟩:=h
 exact SLe.mk _ (fun h=>h ∈ fz) (fun x hx=>hk ▸ Nat.le_of_ble_eq_true (allP_mem h1 x hx)) (hk ▸ Nat.le_of_ble_eq_true h2) (fun h hh=>isIn_some (allP_mem h3 h hh)) h4 (hlx_hle h5 h6)
attribute [go_sem] colC colL colA colAs colV colO colH colS colT nms nodN hlo hlx finG finO sleG
@[go_sem] theorem nblt (a b:Nat):Nat.blt a b=decide (a < b):=by
 show Nat.ble (a+1) b=_
 rw [nble];rfl
theorem aL {α:Type} [LT α] {a b:α} {q:Prop} (h1:a < b) (h2:a < b→q):a < b∧q:=⟨h1,h2 h1⟩
theorem aE {α:Type} [LE α] {a b:α} {q:Prop} (h1:a≤b) (h2:a≤b→q):a≤b∧q:=⟨h1,h2 h1⟩
theorem aC {α β:Type} [LE α] [LT β] {a b:α} {c d:β} {q:Prop} (h1:a≤b∧c < d) (h2:(a≤b∧c < d)→q):(a≤b∧c < d)∧q:=⟨h1,h2 h1⟩
theorem nT (b:Bool):((!b)=true)=(b=false):=Bool.not_eq_true' b
theorem nF (b:Bool):((!b)=false)=(b=true):=Bool.not_eq_false' b
theorem n1:(!true)=false:=rfl
theorem n0:(!false)=true:=rfl
theorem dT {p:Prop} [Decidable p]:(decide p=true)=p:=decide_eq_true_eq
theorem dF {p:Prop} [Decidable p]:(decide p=false) ↔ ¬ p:=decide_eq_false_iff_not
theorem eT {α:Type} [BEq α] [LawfulBEq α] {a b:α}:(a == b)=true ↔ a=b:=beq_iff_eq
theorem eF {α:Type} [BEq α] [LawfulBEq α] {a b:α}:(a == b)=false ↔ a ≠ b:=beq_eq_false_iff_ne
attribute [go_sem] Nat.add_assoc Int.toNat_natCast beq_self_eq_true decide_true decide_false Nat.le_refl eq_self
theorem dA{p:Prop}{i:Decidable p}:(decide p=true)=p:=decide_eq_true_eq
theorem dB{p:Prop}{i:Decidable p}:decide p=false↔¬p:=decide_eq_false_iff_not
theorem dC{p q:Prop}{i:Decidable p}{j:Decidable q}:decide p=decide q↔(p↔q):=decide_eq_decide
end Go.Hw
