/- What is proved here: parts of the walk of the law and of its plain side; no condition but those that each theorem states. -/
import Derived.Test.YtbdfdbkbmegcgaaGreatDoorPD1
import Derived.Test.YtbdfdbkbmegcgaaGreatDoorPH3
import Derived.Below
import Derived.Conc.EventLaws
import Derived.Conc.SmallLaws
import Derived.WideLaws
import Derived.Recover
set_option linter.all false
set_option maxRecDepth 100000
set_option maxHeartbeats 16000000
namespace Go.Hw
open Go.Conc
theorem HeapAt.below {w w':World} {A:Nat→Prop} {ρ:Rho} {H:Heap} (hb:RowKit.Below w.heap.size w w') (hA:∀ b,A b→b < w.heap.size) (h:HeapAt w A ρ H):HeapAt w' A ρ H:=by
 refine ⟨fun x hx hxr=>?_,h.inj⟩
 obtain ⟨b,m,h1,h2,h3,h4⟩:=h.objs x hx hxr
 exact ⟨b,m,h1,h2.mono (fun _ h=>h) (fun b' hb'=>hb.block b' (hA b' hb')) (fun _ _ h=>h) (hb.block b h4),h3,Nat.lt_of_lt_of_le h4 hb.size⟩
theorem CallX.keep {α:Type} {P:Program} {f:FuncId} {args:List A1} {H:Heap} {k:Nat} {p:α→Prop} {res:α→AV} (hf:FnOk P f)
   (h:∀ (w:World) (A:Nat→Prop) (ρ:Rho) (vs:Array Value),All2 (A1.At w A ρ) args vs.toList→HeapAt w A ρ H→(∀ b,A b→b < w.heap.size) →
     Calls P f vs w fun e w'=>∃ x v,p x∧e=.returned v∧(∀ A,(res x).At w' A ρ v)∧RowKit.Below w.heap.size w w') :
   CallX P f args H k p res (fun _=>H) k:=by
 refine ⟨hf,Nat.le_refl _,fun w A ρ vs hvs hH hA hρ=>(h w A ρ vs hvs hH hA).mono ?_⟩
 rintro e w' ⟨x,v,hp,rfl,hv,hb⟩
 refine ⟨x,v,A,ρ,hp,rfl,hv A,hH.below hb hA,hb.os,hb.tape,hb.output,hb.size,fun b hlt _=>hb.block b hlt,fun b hb'=>⟨Nat.lt_of_lt_of_le (hA b hb') hb.size,.inl hb'⟩,?_,fun _ _=>rfl,hρ⟩
 intro y hy hyr b m hbm
 exact .inl ⟨y,hy,hyr,m,hbm⟩
theorem Call.row {P:Program} {f:FuncId} {args:List A1} {H:Heap} {k:Nat} {l:List Str} (hf:FnOk P f) (hl:l ≠ [])
   (h:∀ (w:World) (A:Nat→Prop) (ρ:Rho) (vs:Array Value),All2 (A1.At w A ρ) args vs.toList→HeapAt w A ρ H→(∀ b,A b→b < w.heap.size) →
     Calls P f vs w fun e w'=>∃ (cs:Array Value) (t:TypeId) (cap:Nat),e=.returned (.slice (some ⟨w.heap.size,0,none⟩) l.length cap)∧w'=w.alloc (.cells cs t)∧(l.length≤cap∧cap≤9223372036854775807)∧cap≤cs.size ∧
       ∀ i,i < l.length→cs[i]? = some (.string (ByteArray.mk (List.toArray (l.getD i []))))) :
   Call P f args H k (.o (.c (.sl k 1 0 l.length))) ((k,rU l) ::H) (k+1):=by
 have hn:l.length ≠ 0:=by simpa using hl
 refine ⟨hf,Nat.le_succ _,fun w A ρ vs hvs hH hA hρ=>(h w A ρ vs hvs hH hA).mono ?_⟩
 rintro e w' ⟨cs,t,cap,rfl,rfl,hcap,hcs,hi⟩
 have hb:RowKit.Below w.heap.size w (w.alloc (.cells cs t)):=(RowKit.Below.refl _ w).alloc (Nat.le_refl _) _
 have hk:∀ j x,ρ j=some x→ext ρ k (w.heap.size,cs.size) j=some x:=by
   intro j x hj
   have:j ≠ k:=by intro e;subst e;rw [hρ _ (Nat.le_refl _)] at hj;cases hj
   rw [ext_ne this];exact hj
 have hH':=hH.below hb hA
 refine ⟨(),_,A,ext ρ k (w.heap.size,cs.size),trivial,rfl,.inr ⟨hn,w.heap.size,cs.size,cap,ext_self,by rw [Nat.zero_mul],hcap,by rw [Nat.zero_add,Nat.mul_one];exact hcs⟩,⟨?_,?_⟩,rfl,rfl,rfl,by simp,fun b hlt _=>hb.block b hlt,
   fun b hb'=>⟨by have:=hA b hb';simp;omega,.inl hb'⟩,?_,fun j hj=>ext_ne (by omega),fun j hj=>by rw [ext_ne (by omega)];exact hρ j (by omega)⟩
 · intro x hx hxr
   rcases List.mem_cons.1 hx with rfl|hx
   · refine ⟨w.heap.size,cs.size,ext_self,⟨cs,t,heap_alloc_new w _,rfl,by omega,?_⟩,fun h=>by have:=hA _ h;omega,by simp⟩
     intro i hi' j hj
     have hj0:j=0:=by omega
     subst hj0
     exact ⟨_,by rw [Nat.mul_one,Nat.add_zero];exact hi i hi',rfl,rfl⟩
   · obtain ⟨b,m,h1,h2,h3,h4⟩:=hH'.objs x hx hxr
     exact ⟨b,m,hk _ _ h1,h2.mono (fun _ h=>h) (fun _ _=>rfl) hk rfl,h3,h4⟩
 · rw [List.pairwise_cons]
   refine ⟨fun x hx _ hxr p q hp hq=>?_,?_⟩
   · obtain ⟨b,m,h1,_,_,h4⟩:=hH.objs x hx hxr
     rw [ext_self] at hp;injection hp with hp;subst hp
     rw [hk _ _ h1] at hq;injection hq with hq;subst hq
     show w.heap.size ≠ b
     omega
   · refine List.Pairwise.imp_of_mem ?_ hH.inj
     intro x y hx hy hxy hxr hyr p q hp hq
     obtain ⟨b1,m1,e1,_⟩:=hH.objs x hx hxr
     obtain ⟨b2,m2,e2,_⟩:=hH.objs y hy hyr
     rw [hk _ _ e1] at hp;rw [hk _ _ e2] at hq
     injection hp with hp;injection hq with hq;subst hp;subst hq
     exact hxy hxr hyr _ _ e1 e2
 · intro y hy hyr b m hbm
   rcases List.mem_cons.1 hy with rfl|hy
   · rw [ext_self] at hbm;injection hbm with hbm;injection hbm with e1 _;subst e1;exact .inr (Nat.le_refl _)
   · obtain ⟨b',m',h1,_⟩:=hH.objs y hy hyr
     rw [hk _ _ h1] at hbm;injection hbm with hbm;injection hbm with e1 e2;subst e1
     exact .inl ⟨y,hy,hyr,_,h1⟩
theorem Call.own {P:Program} {f:FuncId} {l:List Str} {rest:List Value} {x:Value} (hr:∀ y ∈ rest,plain y=true)
   (h:Call P f (.c (.t (strsT l)) ::rest.map fun y=>.c (.t (.v y))) [] 0 (.o (.c (.t (.v x)))) [] 0) :
   Call P f (.c (.sl 0 1 0 l.length) ::rest.map fun y=>.c (.t (.v y))) [(0,rU l)] 1 (.o (.c (.t (.v x)))) [(0,rU l)] 1:=by
 obtain ⟨hf,_,h⟩:=h
 refine ⟨hf,Nat.le_refl _,fun w A ρ vs hvs hH hA hρ=>?_⟩
 obtain ⟨⟨⟩⟩:=vs
 · exact hvs.elim
 rename_i v vs
 obtain ⟨hv,hvs⟩:=hvs
 have hrest:∀ (rest:List Value) (vs:List Value) (A:Nat→Prop) (ρ:Rho),All2 (A1.At w A ρ) (rest.map fun y=>.c (.t (.v y))) vs→∀ (A':Nat→Prop) (ρ':Rho),All2 (A1.At w A' ρ') (rest.map fun y=>.c (.t (.v y))) vs:=by
   intro rest
   induction rest with
   | nil=>intro vs A ρ h A' ρ';cases vs with
     | nil=>trivial
     | cons _ _=>exact h.elim
   | cons y rest ih=>intro vs A ρ h A' ρ';cases vs with
     | nil=>exact h.elim
     | cons _ _=>exact ⟨h.1,ih _ _ _ h.2 _ _⟩
 have hb:∃ B:Nat→Prop,(A1.c (.t (strsT l))).At w B (fun _=>none) v∧∀ b,B b→b < w.heap.size:=by
   rcases hv with ⟨h0,a,rfl⟩|⟨h0,b,m,cap,hk,rfl,⟨hc1,hc2⟩,_⟩
   · exact ⟨fun _=>False,⟨a,0,by rw [h0],by omega,fun i hi=>by omega⟩,fun _ h=>h.elim⟩
   · obtain ⟨b',m',hk',⟨cs,e,h1,h2,h3,h4⟩,_,hlt⟩:=hH.objs (0,rU l) (by simp) h0
     have hk':ρ 0=some (b',m'):=hk'
     rw [hk] at hk';injection hk' with hk';injection hk' with e1 e2;subst e1
     refine ⟨fun x=>x=b,⟨_,_,rfl,hc1,fun i hi=>⟨b,0,by rw [Nat.zero_mul],rfl,fun j hj=>?_⟩⟩,fun x hx=>by rw [hx];exact hlt⟩
     have hj0:j=0:=by omega
     subst hj0
     obtain ⟨z,hz1,hz2⟩:=h4 i hi 0 (by omega)
     refine ⟨z,?_,?_⟩
     · rw [Nat.zero_add,cell_of_cells h1];exact hz1
     · exact hz2
 obtain ⟨B,hB1,hB2⟩:=hb
 refine (h w B (fun _=>none) ⟨v ::vs⟩ ⟨hB1,hrest _ _ _ _ hvs _ _⟩ ⟨fun _ h=>(by cases h),List.Pairwise.nil⟩ hB2 (fun _ _=>rfl)).mono ?_
 rintro e w' ⟨_,y,A',ρ',_,rfl,hres,_,hos,htape,hout,hsz,hframe,_⟩
 have hnb:∀ b,¬ blkOf (fun _=>none) [] b:=by rintro b ⟨x,hx,_⟩;cases hx
 have hbel:RowKit.Below w.heap.size w w':=⟨hos,htape,hout,hsz,fun b hb=>hframe b hb (hnb b)⟩
 refine ⟨(),y,A,ρ,trivial,rfl,hres,hH.below hbel hA,hos,htape,hout,hsz,fun b hb _=>hframe b hb (hnb b),fun b hb=>⟨Nat.lt_of_lt_of_le (hA b hb) hsz,.inl hb⟩,?_,fun _ _=>rfl,hρ⟩
 intro z hz hzr b m hbm
 exact .inl ⟨z,hz,hzr,m,hbm⟩
section
variable {P:Program} {ti:Nat→Option TI} {c:Ctx} {Q:Exit→St→Prop} {s:St} {ops:List Oper} {n:Nat}
theorem AWp.regN (n:Nat) {id:Nat} (hT:TOk P ti) (hd:dstOk c.nt ops=true) (h:runR P ti ops (ops.take n) s (fun s'=>AWpI P c ops (ops.take n).length Q s')):AWp P c (.region id ⟨ops⟩ false) Q s:=by
 refine AWp.regionI (AWpI.run hT hd (n:=0) (pre:=ops.take n) (fun s' h'=>?_) (fun i hi=>?_) h)
 · rw [Nat.zero_add];exact h'
 · rw [Nat.zero_add,List.getElem?_take,if_pos (by have:=List.length_take_le n ops;omega)]
theorem dst_of {n:Nat} (h:c.nt=n) (h2:dstOk n ops=true):dstOk c.nt ops=true:=by rw [h];exact h2
theorem AWp.regionLe {id:Nat} {s':St} (hT:TOk P ti) (hd:dstOk c.nt ops=true) (hs:SLe c s s') (h:runR P ti ops ops s' (Q .normal)):AWp P c (.region id ⟨ops⟩ false) Q s :=
 AWp.le hs (AWp.region hT hd h)
theorem AWpI.rest (hT:TOk P ti) (hd:dstOk c.nt ops=true) (h:runR P ti ops (ops.drop n) s (Q .normal)):AWpI P c ops n Q s:=by
 refine AWpI.run hT hd (pre:=ops.drop n) (K:=Q .normal) (fun s' h'=>AWpI.done (by simp;omega) h') (fun i hi=>?_) h
 rw [List.getElem?_drop]
theorem AWpI.upTo (k:Nat) (hT:TOk P ti) (hd:dstOk c.nt ops=true) (hk:n+k≤ops.length) (h:runR P ti ops ((ops.drop n).take k) s (fun s'=>AWpI P c ops (n+k) Q s')):AWpI P c ops n Q s:=by
 refine AWpI.run hT hd (pre:=(ops.drop n).take k) (fun s' h'=>?_) (fun i hi=>?_) h
 · have:((ops.drop n).take k).length=k:=by simp;omega
   rw [this];exact h'
 · rw [List.getElem?_take,if_pos (by have:=List.length_take_le k (ops.drop n);omega),List.getElem?_drop]
theorem dst_lt (hd:dstOk c.nt ops=true) {o:Oper} (hn:ops[n]? = some o):∀ k,o.dst=some k→k < c.nt:=by
 intro d hod
 simp only [dstOk,List.all_eq_true] at hd
 have:=hd o (List.mem_of_getElem? hn)
 rw [hod] at this
 simpa using this
theorem AWpI.val {o:Oper} {v:AV} {H':Heap} {nx':Nat} (hd:dstOk c.nt ops=true) (hn:ops[n]? = some o) (hg:o.guard=none)
   (hop:∀ a w A ρ,Rep c s a w A ρ→∃ y w' A' ρ',(execOp a.eval o).run P w=.ok (.value y) w'∧Rep c { s with h:=H',nx:=nx' } a w' A' ρ'∧v.At w' A' ρ' y)
   (h:AWpI P c ops (n+1) Q ({ s with h:=H',nx:=nx' }.put o.dst v)):AWpI P c ops n Q s:=by
 rintro a w ⟨A,ρ,hr⟩
 rw [range_cons (i:=n) (List.getElem?_eq_some_iff.1 hn).1]
 obtain ⟨y,w',A',ρ',h1,h2,h3⟩:=hop a w A ρ hr
 exact wpI_step (fun b k cs=>step_value (by simpa using hn) (wanted_none hg) h1) (h _ _ ⟨A',ρ',h2.put (dst_lt hd hn) h3⟩)
theorem Rep.new_tbx {a:Act} {w:World} {A:Nat→Prop} {ρ:Rho} (h:Rep c s a w A ρ) (e:TypeId) {l:List Cell} {cs:Array Value} (hl:All2 (Cell.At w A ρ) l cs.toList) :
   Rep c { s with h:=(s.nx,.tbx e l) ::s.h,nx:=s.nx+1 } a { w with heap:=w.heap.push (.cells cs e) } A (ext ρ s.nx (w.heap.size,cs.size)) :=
 h.new_cells e hl (.tbx e l) fun h1 h2=>⟨cs,h1,rfl,h2⟩
theorem AWpI.tbx {o:Oper} {t:TypeId} {x:Operand} {v:A1} (hd:dstOk c.nt ops=true) (hn:ops[n]? = some o) (hg:o.guard=none) (ho:o.op=.box t x) (hx:evO s x=some (.o v))
   (h:AWpI P c ops (n+1) Q ({ s with h:=(s.nx,.tbx t v.cells) ::s.h,nx:=s.nx+1 }.put o.dst (.o (.c (.ptr s.nx 0 0 0))))):AWpI P c ops n Q s:=by
 refine AWpI.val hd hn hg (fun a w A ρ hr=>?_) h
 have h1:v.At w A ρ (a.eval x):=evO_sound hr hx
 obtain ⟨_,op,_,_,_,_⟩:=o
 dsimp only at ho;subst ho
 refine ⟨_,_,A,_,?_,hr.new_tbx t (A1.At.cells h1),w.heap.size,_,ext_self,rfl⟩
 simp [execOp,Instr.box,newVar,newRow]
theorem AWpI.tbxA (hT:TOk P ti) {o:Oper} {t:TypeId} {tx:TI} {l:List Cell} (hd:dstOk c.nt ops=true) (hn:ops[n]? = some o) (hg:o.guard=none) (ho:o.op=.alloc t) (ht:ti t=some tx) (hz:zcells tx=some l)
   (h:AWpI P c ops (n+1) Q ({ s with h:=(s.nx,.tbx t l) ::s.h,nx:=s.nx+1 }.put o.dst (.o (.c (.ptr s.nx 0 0 0))))):AWpI P c ops n Q s:=by
 refine AWpI.val hd hn hg (fun a w A ρ hr=>?_) h
 obtain ⟨_,op,_,_,_,_⟩:=o
 dsimp only at ho;subst ho
 obtain ⟨z,hz1,hz2⟩:=run_zero (hT _ _ ht) w
 refine ⟨_,_,A,_,?_,hr.new_tbx t (l:=l) (cs:=z.cells) ?_,w.heap.size,_,ext_self,rfl⟩
 · simp [execOp,Instr.alloc,newVar,newRow,hz2]
 · rw [hz1];exact zcells_sound hz
end
end Go.Hw
namespace Go.Hw
open Go.Conc
def Event.val (e:Event):Value:=.agg #[.int .i64 e.kind,.int .i64 e.chain,.int .i64 e.height,.int .i64 e.n,.int .i64 e.packet.seq,.int .i64 e.packet.kind,.int .i64 e.packet.src,.int .i64 e.packet.dst,.int .i64 e.packet.sum,.int .i64 e.packet.till,.int .i64 e.packet.ver]
def Event.cl (e:Event):List Cell:=[ci e.kind,ci e.chain,ci e.height,ci e.n,ci e.packet.seq,ci e.packet.kind,ci e.packet.src,ci e.packet.dst,ci e.packet.sum,ci e.packet.till,ci e.packet.ver]
theorem Event.cl_at (e:Event) {w:World} {A:Nat→Prop} {ρ:Rho}:(A1.g e.cl).At w A ρ e.val :=
 ⟨_,rfl,⟨rfl,rfl⟩,⟨rfl,rfl⟩,⟨rfl,rfl⟩,⟨rfl,rfl⟩,⟨rfl,rfl⟩,⟨rfl,rfl⟩,⟨rfl,rfl⟩,⟨rfl,rfl⟩,⟨rfl,rfl⟩,⟨rfl,rfl⟩,⟨rfl,rfl⟩,trivial⟩
theorem Event.cl_val (e:Event) {w:World} {A:Nat→Prop} {ρ:Rho} {y:Value} (h:(A1.g e.cl).At w A ρ y):y=e.val:=by
 obtain ⟨⟨cs⟩,rfl,h⟩:=h
 match cs,h with
 | [_,_,_,_,_,_,_,_,_,_,_],⟨⟨rfl,_⟩,⟨rfl,_⟩,⟨rfl,_⟩,⟨rfl,_⟩,⟨rfl,_⟩,⟨rfl,_⟩,⟨rfl,_⟩,⟨rfl,_⟩,⟨rfl,_⟩,⟨rfl,_⟩,⟨rfl,_⟩,_⟩=>rfl
def chE (cap:Nat) (L:List Event) (cl:Bool) (s r:Nat):Obj:=.chan cap (List.toArray (L.map Event.val)) cl s r false
theorem chE_no (cap:Nat) (L:List Event) (cl:Bool) (s r:Nat):∀ cs e fr,chE cap L cl s r ≠ .cells cs e fr:=by intro cs e fr h;cases h
section
variable {P:Program} {ti:Nat→Option TI} {c:Ctx} {Q:Exit→St→Prop} {s:St} {ops:List Oper} {n:Nat}
theorem wpI_stepA {Q':Exit→Act→World→Prop} {a:Act} {w:World} {o:Oper} {a':Act} {w':World} (hn:ops[n]? = some o)
   (hs:∀ (b:Frame) (k:List Item) (cs:List Frame),step P (lone (b.at a (.inRegion (⟨ops⟩:Array Oper) (n ::List.range' (n+1) (ops.length - (n+1))) ::k)) cs w)=.next (lone (b.at a' (.inRegion (⟨ops⟩:Array Oper) (List.range' (n+1) (ops.length - (n+1))) ::k)) cs w'))
   (h:WpI P ⟨ops⟩ Q' (List.range' (n+1) (ops.length - (n+1))) a' w'):WpI P ⟨ops⟩ Q' (List.range' n (ops.length - n)) a w:=by
 rw [range_cons (i:=n) (List.getElem?_eq_some_iff.1 hn).1]
 exact wpI_step hs h
theorem AWpI.mkch {o:Oper} {t e:TypeId} {x:Operand} {dir:ChanDir} {m:Int} (hd:dstOk c.nt ops=true) (hn:ops[n]? = some o) (hg:o.guard=none) (ho:o.op=.makeChan t x) (hx:evO s x=some (.o (.c (.t (.v (.int .i64 m))))))
   (ht:P.underlying t=some (.chan dir e)) (hi:(P.info? e).map (·.bytes)=some 88) (h0:0≤m) (h1:m≤1000)
   (h:AWpI P c ops (n+1) Q ({ s with h:=(s.nx,.raw (chE m.toNat [] false 0 0)) ::s.h,nx:=s.nx+1 }.put o.dst (.o (.c (.ch s.nx))))):AWpI P c ops n Q s:=by
 refine AWpI.val hd hn hg (fun a w A ρ hr=>?_) h
 have h2:a.eval x=.int .i64 m:=(evO_sound hr hx).1
 obtain ⟨i,hi,hb⟩:=Option.map_eq_some_iff.1 hi
 have hrun:=run_makeChan (w:=w) ht hi .i64 m.toNat (by omega) (by rw [hb];omega)
 rw [show ((m.toNat:Nat):Int)=m by omega] at hrun
 refine ⟨_,_,A,_,?_,hr.alloc (chE m.toNat [] false 0 0) (.raw (chE m.toNat [] false 0 0)) 0 ⟨by simp,chE_no _ _ _ _ _⟩,w.heap.size,_,ext_self,rfl⟩
 obtain ⟨_,op,_,_,_,_⟩:=o
 dsimp only at ho;subst ho
 simp only [execOp,h2,Sem.run_bind,hrun,Sem.run_pure,Result.andThen_ok,Sem.run_map]
 rfl
theorem AWpI.send {o:Oper} {x y:Operand} {h cap sc rc:Nat} {L:List Event} (e:Event) (hn:ops[n]? = some o) (hg:o.guard=none) (ho:o.op=.send x y) (hdst:o.dst=none)
   (hx:evO s x=some (.o (.c (.ch h)))) (hl:look h s.h=some (.raw (chE cap L false sc rc))) (hy:evO s y=some (.o (.g e.cl))) (hroom:L.length < cap)
   (hh:AWpI P c ops (n+1) Q { s with h:=upd h (.raw (chE cap (L++[e]) false (sc+1) rc)) s.h }):AWpI P c ops n Q s:=by
 rintro a w ⟨A,ρ,hr⟩
 obtain ⟨b,m,hk,h1⟩:=evO_sound hr hx
 obtain ⟨b',m',hk',hat,_,_⟩:=hr.heap.objs _ (look_mem hl) trivial
 rw [hk] at hk';injection hk' with hk';injection hk' with e1 e2;subst e1
 have h2:a.eval y=e.val:=Event.cl_val e (evO_sound hr hy)
 refine wpI_stepA (o:=o) hn (a':=a) (fun fb k cs=>?_) (hh _ _ ⟨A,ρ,upd_raw hr hl hk (chE_no _ _ _ _ _)⟩)
 have hst:=step_send (P:=P) (b:=fb) (k:=k) (cs:=cs) (a:=a) (w:=w) (ops:=(⟨ops⟩:Array Oper)) (i:=n) (rest:=List.range' (n+1) (ops.length - (n+1))) (o:=o) (c:=b) (v:=e.val) (z':=.tuple #[]) (by simpa using hn) (wanted_none hg) ?_ hat.1 (by simpa using hroom)
 · rw [hst,hdst]
   simp [World.setChan,chE,Act.put]
 · obtain ⟨_,op,_,_,_,_⟩:=o
   dsimp only at ho;subst ho
   have h1:a.eval x=.chan (some b):=h1
   simp [execOp,h1,h2,scase]
theorem AWpI.recv {o:Oper} {x:Operand} {t el:TypeId} {dir:ChanDir} {z:Value} {h cap sc rc:Nat} {L:List Event} {cl:Bool} (e:Event) (hd:dstOk c.nt ops=true) (hn:ops[n]? = some o) (hg:o.guard=none) (ho:o.op=.recv t x true)
   (ht:P.underlying t=some (.chan dir el)) (hz:(P.info? el).bind (·.zero)=some z) (hx:evO s x=some (.o (.c (.ch h)))) (hl:look h s.h=some (.raw (chE cap (e ::L) cl sc rc)))
   (hh:AWpI P c ops (n+1) Q ({ s with h:=upd h (.raw (chE cap L cl sc (rc+1))) s.h }.put o.dst (.tup [.g e.cl,BB true]))):AWpI P c ops n Q s:=by
 rintro a w ⟨A,ρ,hr⟩
 obtain ⟨b,m,hk,h1⟩:=evO_sound hr hx
 obtain ⟨b',m',hk',hat,_,_⟩:=hr.heap.objs _ (look_mem hl) trivial
 rw [hk] at hk';injection hk' with hk';injection hk' with e1 e2;subst e1
 obtain ⟨i,hi,hzi⟩:=Option.bind_eq_some_iff.1 hz
 have hnew:=(upd_raw hr hl hk (chE_no cap L cl sc (rc+1))).put (d:=o.dst) (v:=.tup [.g e.cl,BB true]) (y:=.tuple #[e.val,.bool true]) (dst_lt hd hn) ⟨_,rfl,Event.cl_at e,⟨rfl,rfl⟩,trivial⟩
 refine wpI_stepA (o:=o) hn (a':=a.put o.dst (.tuple #[e.val,.bool true])) (fun fb k cs=>?_) (hh _ _ ⟨A,ρ,hnew⟩)
 have hst:=step_recv (P:=P) (b:=fb) (k:=k) (cs:=cs) (a:=a) (w:=w) (ops:=(⟨ops⟩:Array Oper)) (i:=n) (rest:=List.range' (n+1) (ops.length - (n+1))) (o:=o) (c:=b) (z:=z) (ok:=true) (by simpa using hn) (wanted_none hg) ?_ hat.1 (by simp)
 · rw [hst]
   have e9:List.take L.length (List.map Event.val L)=List.map Event.val L:=List.take_of_length_le (by simp)
   simp [World.setChan,chE,got,e9]
 · obtain ⟨_,op,_,_,_,_⟩:=o
   dsimp only at ho;subst ho
   have h1:a.eval x=.chan (some b):=h1
   simp [execOp,h1,rcase,run_underlying ht,zeroValue,typeInfo,hi,hzi]
theorem AWpI.shut {o:Oper} {x:Operand} {t el:TypeId} {dir:ChanDir} {h cap sc rc:Nat} (e:Event) (hd:dstOk c.nt ops=true) (hn:ops[n]? = some o) (hg:o.guard=none) (ho:o.op=.recv t x true)
   (ht:P.underlying t=some (.chan dir el)) (hz:(P.info? el).bind (·.zero)=some e.val) (hx:evO s x=some (.o (.c (.ch h)))) (hl:look h s.h=some (.raw (chE cap [] true sc rc)))
   (hh:AWpI P c ops (n+1) Q (s.put o.dst (.tup [.g e.cl,BB false]))):AWpI P c ops n Q s:=by
 rintro a w ⟨A,ρ,hr⟩
 obtain ⟨b,m,hk,h1⟩:=evO_sound hr hx
 obtain ⟨b',m',hk',hat,_,_⟩:=hr.heap.objs _ (look_mem hl) trivial
 rw [hk] at hk';injection hk' with hk';injection hk' with e1 e2;subst e1
 obtain ⟨i,hi,hzi⟩:=Option.bind_eq_some_iff.1 hz
 have hnew:=hr.put (d:=o.dst) (v:=.tup [.g e.cl,BB false]) (y:=.tuple #[e.val,.bool false]) (dst_lt hd hn) ⟨_,rfl,Event.cl_at e,⟨rfl,rfl⟩,trivial⟩
 refine wpI_stepA (o:=o) hn (a':=a.put o.dst (.tuple #[e.val,.bool false])) (fun fb k cs=>?_) (hh _ _ ⟨A,ρ,hnew⟩)
 have hst:=step_recv_shut (P:=P) (b:=fb) (k:=k) (cs:=cs) (a:=a) (w:=w) (ops:=(⟨ops⟩:Array Oper)) (i:=n) (rest:=List.range' (n+1) (ops.length - (n+1))) (o:=o) (c:=b) (z:=e.val) (ok:=true) (by simpa using hn) (wanted_none hg) ?_ hat.1
 · rw [hst]
   simp [got]
 · obtain ⟨_,op,_,_,_,_⟩:=o
   dsimp only at ho;subst ho
   have h1:a.eval x=.chan (some b):=h1
   simp [execOp,h1,rcase,run_underlying ht,zeroValue,typeInfo,hi,hzi]
theorem AWpI.close {o:Oper} {x:Operand} {tys:Array TypeId} {h cap sc rc:Nat} {L:List Event} (hd:dstOk c.nt ops=true) (hn:ops[n]? = some o) (hg:o.guard=none) (ho:o.op=.call ⟨.builtin .close,#[x],tys⟩)
   (hx:evO s x=some (.o (.c (.ch h)))) (hl:look h s.h=some (.raw (chE cap L false sc rc)))
   (hh:AWpI P c ops (n+1) Q ({ s with h:=upd h (.raw (chE cap L true sc rc)) s.h }.put o.dst (.tup []))):AWpI P c ops n Q s:=by
 refine AWpI.val hd hn hg (nx':=s.nx) (fun a w A ρ hr=>?_) hh
 obtain ⟨b,m,hk,h1⟩:=evO_sound hr hx
 obtain ⟨b',m',hk',hat,_,_⟩:=hr.heap.objs _ (look_mem hl) trivial
 rw [hk] at hk';injection hk' with hk';injection hk' with e1 e2;subst e1
 refine ⟨.tuple #[],_,A,ρ,?_,upd_raw hr hl hk (chE_no cap L true sc rc),⟨#[],rfl,trivial⟩⟩
 have h1:a.eval x=.chan (some b):=h1
 obtain ⟨_,op,ty,_,_,_⟩:=o
 dsimp only at ho;subst ho
 have hrun:=run_close_open (P:=P) tys ty (w:=w) hat.1
 simp [execOp,resolve,invoke,builtin,h1,hrun,chE]
def errB:Value→Option Bool
 | .nilIface=>some true
 | .iface _ _=>some false
 | _=>none
theorem AWpI.isnil {o:Oper} {x:Operand} {t yt:TypeId} {v:Value} {q:Bool} (hd:dstOk c.nt ops=true) (hn:ops[n]? = some o) (hg:o.guard=none) (ho:o.op=.binOp .neq t x (.const .nilIface) yt)
   (ht:P.underlying t=some (.interface (P.methodsAt t))) (hx:evO s x=some (.o (.c (.t (.v v))))) (hv:errB v=some q)
   (hh:AWpI P c ops (n+1) Q (s.put o.dst (.o (BB (!q))))):AWpI P c ops n Q s:=by
 refine AWpI.val (v:=.o (BB (!q))) hd hn hg (H':=s.h) (nx':=s.nx) (fun a w A ρ hr=>⟨.bool (!q),w,A,ρ,?_,hr,rfl,rfl⟩) hh
 have h1:a.eval x=v:=(evO_sound hr hx).1
 obtain ⟨_,op,_,_,_,_⟩:=o
 dsimp only at ho;subst ho
 have h2:a.eval (.const .nilIface)=.nilIface:=rfl
 cases v<;>simp only [errB,reduceCtorEq,Option.some.injEq] at hv
 · subst hv
   simp [execOp,h1,h2,eqGuard,run_neq_held_nil _ _ _ _ ht]
 · subst hv
   simp [execOp,h1,h2,eqGuard,run_neq_nil_nil _ _ ht]
end
end Go.Hw
namespace Go.Hw
open Go.Conc
theorem run_append_str {P:Program} {t xt e:Nat} {te:TI} (hte:TFact P e te) (h1:1≤te.size) (h2:te.bytes≤4096)
   (hu:P.underlying t=some (.slice e)) {dx:TypeDesc} (hx:P.underlying xt=some dx) (hni:∀ q,dx ≠ .int q) {w:World} {base:Option Addr} {n cap m:Nat} {y:Value} {ln lx:List Value}
   (hlen:(Builtin.lenOf y).run P w=.ok m w) (hold:(Builtin.firstCells te.size n (.slice base n cap)).run P w=.ok ln.toArray w) (hnew:(Builtin.firstCells te.size m y).run P w=.ok lx.toArray w)
   (hold':(Builtin.firstCells te.size n (.slice base n cap)).run P w.drew=.ok ln.toArray w.drew) (hnew':(Builtin.firstCells te.size m y).run P w.drew=.ok lx.toArray w.drew)
   (hsm:n+m≤1000000) (tt:Nat) :
   (n+m≤cap→(∀ a,base=some a→∃ b o cs f,a=⟨b,o,none⟩∧w.heap[b]? = some (.cells cs f (0,0))∧o+n * te.size+lx.length≤cs.size∧(∀ v ∈ lx,v.oneCell'=true))→(base=none→lx=[]) →
     (Builtin.append_ #[t,xt] tt #[.slice base n cap,y]).run P w=.ok (.slice base (n+m) cap) (match base with
       | some a=>w.setRow a.block (match w.heap[a.block]? with|some (.cells cs _ _)=>(cs.toList.take (a.off+n * te.size)++lx++cs.toList.drop (a.off+n * te.size+lx.length)).toArray|_=>#[])
       | none=>w)) ∧
   (cap < n+m→∃ (newCap:Nat) (z:Value),(n+m≤newCap∧newCap≤9223372036854775807)∧z.cells.toList=te.zero ∧
     (Builtin.append_ #[t,xt] tt #[.slice base n cap,y]).run P w=.ok (.slice (some ⟨w.heap.size,0,none⟩) (n+m) newCap) (w.drew.alloc (.cells (ln.toArray++lx.toArray++Builtin.zeroCells z.cells (newCap - (n+m))) e))):=by
 have hmx:(match (generalizing:=false) dx with|.int _=>true|_=>false)=false:=by cases dx<;>first|rfl|exact absurd rfl (hni _)
 have hs:∀ w,(sizeOf e).run P w=.ok te.size w:=run_size hte
 have hb:∀ w,∃ i,i.bytes=te.bytes∧(typeInfo e).run P w=.ok i w:=run_tinfo hte
 have hz:∀ w,∃ z,z.cells.toList=te.zero∧(zeroValue e).run P w=.ok z w:=run_zero hte
 obtain ⟨i,z,hi1,hi4,hi5,hi6,hi7⟩:=hte.info
 constructor
 · intro hle hcell hnone
   cases base with
   | none =>
     have:=hnone rfl;subst this
     simp [Builtin.append_,run_underlying hu,run_underlying hx,hmx,hs,hlen,hle,hnew]
   | some a =>
     obtain ⟨b,o,cs,f,rfl,hc,hcs,hone⟩:=hcell a rfl
     have hst:=run_storeCells_at P b (o+n * te.size) f lx 0 cs w hc (by simp;omega) hone
     simp only [Nat.add_zero] at hst
     simp [Builtin.append_,run_underlying hu,run_underlying hx,hmx,hs,hlen,hle,hnew,add_lit,hst,hc]
 · intro hlt
   have hnle:¬ n+m≤cap:=by omega
   have hcap:=nextcap_le (need:=n+m) (old:=cap) (by omega)
   have hbig:¬ Builtin.nextslicecap (n+m) cap * i.bytes > 2 ^ 48:=by
     have:Builtin.nextslicecap (n+m) cap * i.bytes≤(4 * (n+m)+4000) * 4096:=Nat.mul_le_mul hcap (by omega)
     have:(4 * (n+m)+4000) * 4096≤(4 * 1000000+4000) * 4096:=Nat.mul_le_mul_right _ (by omega)
     omega
   have hmax:¬ ((n+m:Nat):Int) > IntKind.i64.max:=by
     have:IntKind.i64.max=9223372036854775807:=by rfl
     rw [this];omega
   refine ⟨(Question.appendCap (n+m) cap e).cut (w.tape w.drawn (.appendCap (n+m) cap e)),z,⟨by simp only [Question.cut];omega,cut_le (by omega)⟩,hi7,?_⟩
   have hti:∀ w,(typeInfo e).run P w=.ok i w:=fun w=>by simp [typeInfo,hi1]
   have hzv:∀ w,(zeroValue e).run P w=.ok z w:=fun w=>by simp [zeroValue,typeInfo,hi1,hi6]
   simp only [Builtin.append_,List.getElem?_toArray,List.getElem?_cons_zero,List.getElem?_cons_succ,Sem.run_bind,run_underlying hu,run_underlying hx,hmx,Result.andThen_ok,hs,Sem.run_pure,Bool.false_eq_true,if_false,hlen,hnle,hti]
   simp only [hmax,false_and,if_false,hti,hbig,Sem.run_bind,Sem.run_pure,Result.andThen_ok,run_choose,Question.forced,Bool.false_eq_true,if_false,run_askRoom,World.drew_eq,hold',Bool.not_false,if_true,hnew',hzv,newRow,run_newObj,World.alloc_eq]
   rfl
def cy (b:UInt8):Cell:=.t (.v (.int .u8 b.toNat))
def fY (l:Str) (i j:Nat):Cell:=if j=0 then cy (l.getD i 0) else nix
def bys (l:Str) (z:Nat):List Cell:=l.map cy++List.replicate z (cy 0)
def bufO (l:Str) (z:Nat):AObj:=if l=[] then .row 1 0 (fY []) else .tbx 5 (bys l z)
def byV (l:Str) (z:Nat):List Value:=(l.map fun b=>.int .u8 b.toNat)++List.replicate z (.int .u8 0)
theorem bys_at {w:World} {A:Nat→Prop} {ρ:Rho} (l:Str) (z:Nat):All2 (Cell.At w A ρ) (bys l z) (byV l z):=by
 have h1:All2 (Cell.At w A ρ) (l.map cy) (l.map fun b=>Value.int .u8 b.toNat):=by
   induction l with
   | nil=>trivial
   | cons b l ih=>exact ⟨⟨rfl,rfl⟩,ih⟩
 have h2:All2 (Cell.At w A ρ) (List.replicate z (cy 0)) (List.replicate z (Value.int .u8 0)):=by
   induction z with
   | zero=>trivial
   | succ z ih=>exact ⟨⟨rfl,rfl⟩,ih⟩
 exact All2.append h1 h2
theorem bys_val {w:World} {A:Nat→Prop} {ρ:Rho} (l:Str) (z:Nat) {vs:List Value} (h:All2 (Cell.At w A ρ) (bys l z) vs):vs=byV l z:=by
 have key:∀ (xs:List Cell) (us vs:List Value),(∀ x ∈ xs,∃ v,x=.t (.v v))→All2 (Cell.At w A ρ) xs us→All2 (Cell.At w A ρ) xs vs→vs=us:=by
   intro xs
   induction xs with
   | nil=>intro us vs _ h1 h2;cases us<;>cases vs<;>first|rfl|exact h1.elim|exact h2.elim
   | cons x xs ih =>
     intro us vs hx h1 h2
     cases us with
     | nil=>exact h1.elim
     | cons u us=>cases vs with
       | nil=>exact h2.elim
       | cons v vs =>
         obtain ⟨y,rfl⟩:=hx x (by simp)
         have e1:u=y:=h1.1.1
         have e2:v=y:=h2.1.1
         rw [e1,e2,ih us vs (fun x hx'=>hx x (by simp [hx'])) h1.2 h2.2]
 refine key (bys l z) (byV l z) vs (fun x hx=>?_) (bys_at l z) h
 rcases List.mem_append.1 hx with h|h
 · obtain ⟨b,_,rfl⟩:=List.mem_map.1 h;exact ⟨_,rfl⟩
 · rw [List.eq_of_mem_replicate h];exact ⟨_,rfl⟩
theorem byV_len (l:Str) (z:Nat):(byV l z).length=l.length+z:=by simp [byV]
theorem zero_cells (k:Nat):(Builtin.zeroCells #[Value.int .u8 0] k).toList=List.replicate k (.int .u8 0):=by
 apply List.ext_getElem
 · simp [Builtin.zeroCells]
 · intro i h1 h2;simp [Builtin.zeroCells,Nat.mod_one]
section
variable {P:Program} {ti:Nat→Option TI} {c:Ctx} {Q:Exit→St→Prop} {s:St} {ops:List Oper} {n:Nat}
theorem appendB {a:Act} {w:World} {A:Nat→Prop} {ρ:Rho} (hr:Rep c s a w A ρ) {t xt:Nat} {te:TI} (hte:TFact P 5 te) (h1:te.size=1) (h2:te.bytes≤4096) (h3:te.zero=[.int .u8 0])
   (hu1:P.underlying t=some (.slice 5)) {dx:TypeDesc} (hu2:P.underlying xt=some dx) (hni:∀ q,dx ≠ .int q) {u v:Value} {k z:Nat} {l m:Str} (hm0:m ≠ [])
   (hlv:∀ w',(Builtin.lenOf v).run P w'=.ok m.length w') (hfv:∀ w',w'.heap=w.heap→(Builtin.firstCells 1 m.length v).run P w'=.ok (byV m 0).toArray w')
   (hu:(Cell.sl k 1 0 l.length).At w A ρ u) (hl:look k s.h=some (bufO l z)) (hlen:l.length+m.length≤1000000) (tt:Nat) :
   ∃ y w' ρ' z',(Builtin.append_ #[t,xt] tt #[u,v]).run P w=.ok y w'∧Rep c { s with h:=(s.nx,bufO (l++m) z') ::rem k s.h,nx:=s.nx+1 } a w' A ρ'∧(Cell.sl s.nx 1 0 (l++m).length).At w' A ρ' y:=by
 have hml:m.length ≠ 0:=by simpa using hm0
 have hne:l++m ≠ []:=by simp [hm0]
 have hlm:(l++m).length=l.length+m.length:=List.length_append
 have hby:∀ q ∈ byV m 0,q.oneCell'=true:=by
   intro q hq
   simp only [byV,List.replicate_zero,List.append_nil] at hq
   obtain ⟨b,_,rfl⟩:=List.mem_map.1 hq;rfl
 have hsum:∀ (x y:Str) (z:Nat),byV x 0++byV y z=byV (x++y) z:=by intro x y z;simp [byV]
 have grown:∀ (newCap:Nat) (zv:Value),zv.cells.toList=te.zero→l.length+m.length≤newCap→newCap≤9223372036854775807 →
     ∃ ρ' z',Rep c { s with h:=(s.nx,bufO (l++m) z') ::rem k s.h,nx:=s.nx+1 } a (w.drew.alloc (.cells ((byV l 0).toArray++(byV m 0).toArray++Builtin.zeroCells zv.cells (newCap - (l.length+m.length))) 5)) A ρ' ∧
       (Cell.sl s.nx 1 0 (l++m).length).At (w.drew.alloc (.cells ((byV l 0).toArray++(byV m 0).toArray++Builtin.zeroCells zv.cells (newCap - (l.length+m.length))) 5)) A ρ' (.slice (some ⟨w.heap.size,0,none⟩) (l.length+m.length) newCap):=by
   intro newCap zv hz hc hM
   have hzv:zv.cells=#[.int .u8 0]:=by rw [h3] at hz;exact Array.toList_inj.1 (by simpa using hz)
   have e1:((byV l 0).toArray++(byV m 0).toArray++Builtin.zeroCells zv.cells (newCap - (l.length+m.length))).toList=byV (l++m) (newCap - (l.length+m.length)):=by
     rw [Array.toList_append,Array.toList_append,hzv,zero_cells]
     simp only [List.toList_toArray]
     rw [hsum];simp [byV]
   have e2:((byV l 0).toArray++(byV m 0).toArray++Builtin.zeroCells zv.cells (newCap - (l.length+m.length))).size=newCap:=by
     rw [← Array.length_toList,e1,byV_len,hlm];omega
   generalize (byV l 0).toArray++(byV m 0).toArray++Builtin.zeroCells zv.cells (newCap - (l.length+m.length))=CS at e1 e2 ⊢
   have hrow:Rep c { s with h:=(s.nx,.tbx 5 (bys (l++m) (newCap - (l.length+m.length)))) ::s.h,nx:=s.nx+1 } a (w.drew.alloc (.cells CS 5)) A (ext ρ s.nx (w.heap.size,CS.size)) :=
     hr.drew.new_cells (e:=5) (l:=bys (l++m) (newCap - (l.length+m.length))) (cs:=CS) (by rw [e1];exact bys_at _ _) (.tbx 5 (bys (l++m) (newCap - (l.length+m.length)))) (fun h1 h2=>⟨_,h1,rfl,h2⟩)
   refine ⟨ext ρ s.nx (w.heap.size,CS.size),newCap - (l.length+m.length),?_,.inr ⟨by rw [hlm];omega,w.heap.size,CS.size,newCap,ext_self,?_,⟨by rw [hlm];exact hc,hM⟩,?_⟩⟩
   · have:=hrow.weaken (t':=s.t) (H':=(s.nx,.tbx 5 (bys (l++m) (newCap - (l.length+m.length)))) ::rem k s.h) (fun _ _ h=>h) (List.Sublist.cons_cons _ rem_sub)
     unfold bufO;rw [if_neg hne];exact this
   · rw [Nat.zero_mul,hlm]
   · rw [e2,Nat.zero_add,Nat.mul_one];exact Nat.le_refl _
 by_cases hl0:l=[]
 · subst hl0
   rcases hu with ⟨_,ba,rfl⟩|⟨h,_⟩
   rotate_left
   · exact absurd rfl h
   have hf0:∀ w,(Builtin.firstCells te.size 0 (.slice ba 0 0)).run P w=.ok (byV [] 0).toArray w:=by
     intro w;cases ba<;>simp [Builtin.firstCells,loadCells,loadCellsFrom,byV]
   have hrun:=(run_append_str hte (by omega) h2 hu1 hu2 hni (w:=w) (base:=ba) (n:=0) (cap:=0) (m:=m.length) (y:=v) (ln:=byV [] 0) (lx:=byV m 0) (hlv w) (hf0 w) (by rw [h1];exact hfv w rfl) (hf0 w.drew) (by rw [h1];exact hfv w.drew rfl) (by simpa using hlen) tt).2 (by omega)
   obtain ⟨newCap,zv,⟨hc1,hcM⟩,hc2,hrun⟩:=hrun
   obtain ⟨ρ',z',g1,g2⟩:=grown newCap zv hc2 (by simpa using hc1) hcM
   simp only [List.length_nil,Nat.zero_add] at g1 g2 hrun
   exact ⟨_,_,ρ',z',hrun,g1,by simpa using g2⟩
 · have hn0:l.length ≠ 0:=by simpa using hl0
   rcases hu with ⟨h,_⟩|⟨_,b,mm,cap,hk,rfl,⟨hcap1,hcapM⟩,hcap2⟩
   · exact absurd h hn0
   unfold bufO at hl;rw [if_neg hl0] at hl
   obtain ⟨b',m',hk',⟨cs,hc,hcm,hall⟩,hnA,hlt⟩:=hr.heap.objs _ (look_mem hl) trivial
   rw [hk] at hk';injection hk' with hk';injection hk' with e1 e2;subst e1;subst e2
   have hcs:=bys_val l z hall
   have hsz:cs.size=l.length+z:=by rw [← Array.length_toList,hcs,byV_len]
   rw [Nat.zero_add,Nat.mul_one] at hcap2
   have hfn:∀ w':World,w'.heap=w.heap→(Builtin.firstCells te.size l.length (.slice (some ⟨b,0 * 1,none⟩) l.length cap)).run P w'=.ok (byV l 0).toArray w':=by
     intro w' hw'
     rw [h1,Nat.zero_mul]
     simp only [Builtin.firstCells]
     have e9:l.length * 1=(byV l 0).length:=by rw [byV_len];omega
     rw [e9]
     refine run_loadCells_list (P:=P) w' _ (byV l 0) (fun j x hj=>?_)
     rw [add_lit,cell_same hw',cell_of_cells hc,Nat.zero_add]
     have:cs.toList[j]? = some x:=by
       rw [hcs]
       simp only [byV,List.replicate_zero,List.append_nil] at hj ⊢
       rw [List.getElem?_append,if_pos (List.getElem?_eq_some_iff.1 hj).1];exact hj
     simpa using this
   have hrun:=run_append_str hte (by omega) h2 hu1 hu2 hni (w:=w) (base:=some ⟨b,0 * 1,none⟩) (n:=l.length) (cap:=cap) (m:=m.length) (y:=v) (ln:=byV l 0) (lx:=byV m 0) (hlv w) (hfn w rfl) (by rw [h1];exact hfv w rfl) (hfn w.drew rfl) (by rw [h1];exact hfv w.drew rfl) hlen tt
   by_cases hle:l.length+m.length≤cap
   · have g:=hrun.1 hle (by
       rintro a' ha'
       injection ha' with ha';subst ha'
       exact ⟨b,_,cs,5,rfl,hc,by rw [h1,byV_len];omega,hby⟩) (by intro h;cases h)
     simp only [hc,Nat.zero_mul,Nat.zero_add,h1,Nat.mul_one] at g
     have ecs:cs.toList.take l.length++byV m 0++cs.toList.drop (l.length+(byV m 0).length)=byV (l++m) (z - m.length):=by
       rw [hcs,byV_len]
       simp only [byV,List.replicate_zero,List.append_nil,Nat.add_zero]
       rw [List.take_append_of_le_length (by simp),List.drop_append]
       simp only [List.length_map,List.map_append]
       rw [List.take_of_length_le (by simp),List.drop_eq_nil_of_le (by simp),List.drop_replicate]
       simp
     rw [ecs] at g
     refine ⟨_,_,ext ρ s.nx (b,mm),z - m.length,by simpa using g,?_,.inr ⟨by rw [hlm];omega,b,mm,cap,ext_self,by rw [Nat.zero_mul,hlm],⟨by rw [hlm];exact hle,hcapM⟩,by rw [Nat.zero_add,Nat.mul_one];exact hcap2⟩⟩
     have hrow:(AObj.tbx 5 (bys (l++m) (z - m.length))).At (w.setRow b (byV (l++m) (z - m.length)).toArray) A (ext ρ s.nx (b,mm)) b mm :=
       ⟨_,setRow_get hc,by rw [List.size_toArray,byV_len,hlm];omega,by simpa using bys_at _ _⟩
     have:=hr.hand (b':=b) (m':=mm) hl trivial hk (w':=w.setRow b (byV (l++m) (z - m.length)).toArray) rfl rfl rfl (by simp) (fun x hx hne=>setRow_ne hne) (.inl rfl) hrow
     unfold bufO;rw [if_neg hne];exact this
   · obtain ⟨newCap,zv,⟨hc1,hcM⟩,hc2,g⟩:=hrun.2 (by omega)
     obtain ⟨ρ',z',g1,g2⟩:=grown newCap zv hc2 hc1 hcM
     exact ⟨_,_,ρ',z',by simpa using g,g1,by simpa using g2⟩
theorem AWpI.appB (hT:TOk P ti) {o:Oper} {d x:Operand} {t xt k z:Nat} {te:TI} {l m:Str} (hd:dstOk c.nt ops=true) (hn:ops[n]? = some o) (hg:o.guard=none) (ho:o.op=.call ⟨.builtin .append,#[d,x],#[t,xt]⟩)
   (hte:ti 5=some te) (h1:te.size=1) (h2:te.bytes≤4096) (h3:te.zero=[.int .u8 0]) (hu1:P.underlying t=some (.slice 5)) {dx:TypeDesc} (hu2:P.underlying xt=some dx) (hni:∀ q,dx ≠ .int q) (hm0:m ≠ [])
   (hdv:evO s d=some (.o (.c (.sl k 1 0 l.length)))) (hl:look k s.h=some (bufO l z)) (hx:(evO s x=some (.o (U m))) ∨ ∃ j b,evO s x=some (.o (.c (.sl j 1 0 1)))∧m=[b]∧look j s.h=some (.row 1 1 (rowOf 1 [.t (.v (.int .u8 b.toNat))]))) (hlen:l.length+m.length≤1000000)
   (hh:∀ z',AWpI P c ops (n+1) Q ({ s with h:=(s.nx,bufO (l++m) z') ::rem k s.h,nx:=s.nx+1 }.put o.dst (.o (.c (.sl s.nx 1 0 (l++m).length))))):AWpI P c ops n Q s:=by
 rintro a w ⟨A,ρ,hr⟩
 rw [range_cons (i:=n) (List.getElem?_eq_some_iff.1 hn).1]
 have e1:(Cell.sl k 1 0 l.length).At w A ρ (a.eval d):=evO_sound hr hdv
 have hv:(∀ w',(Builtin.lenOf (a.eval x)).run P w'=.ok m.length w')∧∀ w',w'.heap=w.heap→(Builtin.firstCells 1 m.length (a.eval x)).run P w'=.ok (byV m 0).toArray w':=by
   rcases hx with hx|⟨j,b,hx,rfl,hj⟩
   · have e2:a.eval x=.string (ByteArray.mk (List.toArray m)):=(evO_sound hr hx).1
     rw [e2]
     refine ⟨fun w'=>by simp [Builtin.lenOf,ByteArray.size],fun w' _=>?_⟩
     have:(ByteArray.mk (List.toArray m)).extract 0 m.length=ByteArray.mk (List.toArray m):=by
       apply ByteArray.ext
       simp [ByteArray.data_extract]
     simp [Builtin.firstCells,this,byV]
   · rcases evO_sound hr hx with ⟨h,_⟩|⟨_,b2,mm,cap,hk,hv,_⟩
     · cases h
     rw [hv]
     refine ⟨fun w'=>rfl,fun w' hw'=>?_⟩
     obtain ⟨b',m',hk',⟨cs,e,hc,hcm,_,hall⟩,_⟩:=hr.heap.objs _ (look_mem hj) (by show (1:Nat) ≠ 0;decide)
     have hk':ρ j=some (b',m'):=hk'
     rw [hk] at hk';injection hk' with hk';injection hk' with e3 e4;subst e3
     obtain ⟨zz,hz1,hz2⟩:=hall 0 (by omega) 0 (by omega)
     have hz2:zz=.int .u8 b.toNat:=by
       rw [show rowOf 1 [Cell.t (.v (.int .u8 b.toNat))] 0 0=.t (.v (.int .u8 b.toNat)) from rowOf_c1 _] at hz2
       exact hz2.1
     subst hz2
     simp only [Builtin.firstCells]
     refine run_loadCells_list (P:=P) w' _ (byV [b] 0) (fun i x hi=>?_)
     have hi0:i=0:=by have:=(List.getElem?_eq_some_iff.1 hi).1;simp [byV] at this;omega
     subst hi0
     simp [byV] at hi
     subst hi
     rw [add_lit,cell_same hw',cell_of_cells hc];simpa using hz1
 obtain ⟨y,w',ρ',z',hrun,hr',hy⟩:=appendB hr (hT _ _ hte) h1 h2 h3 hu1 hu2 hni hm0 hv.1 hv.2 e1 hl hlen o.type
 have hop:(execOp a.eval o).run P w=.ok (.value y) w':=by
   obtain ⟨_,op,ty,_,_,_⟩:=o
   dsimp only at ho hrun;subst ho
   simp [execOp,resolve,invoke,builtin,hrun]
 exact wpI_step (fun b k cs=>step_value (by simpa using hn) (wanted_none hg) hop) (hh z' _ _ ⟨A,ρ',hr'.put (dst_lt hd hn) hy⟩)
theorem AWpI.storeT (hT:TOk P ti) {o:Oper} {ad x:Operand} {t h i:Nat} {tx:TI} {e:TypeId} {l:List Cell} {y:Cell} (hn:ops[n]? = some o) (hg:o.guard=none) (hdst:o.dst=none) (ho:o.op=.store t ad x)
   (ht:ti t=some tx) (hsz:tx.size=1) (hav:evO s ad=some (.o (.c (.ptr h 0 0 i)))) (hl:look h s.h=some (.tbx e l)) (hx:evO s x=some (.o (.c y))) (hi:i < l.length)
   (hh:AWpI P c ops (n+1) Q { s with h:=upd h (.tbx e (l.set i y)) s.h }):AWpI P c ops n Q s:=by
 rintro a w ⟨A,ρ,hr⟩
 rw [range_cons (i:=n) (List.getElem?_eq_some_iff.1 hn).1]
 obtain ⟨b,m,hk,h1⟩:=evO_sound hr hav
 have h2:y.At w A ρ (a.eval x):=evO_sound hr hx
 obtain ⟨b',m',hk',⟨cs,hc,hm,hall⟩,hnA,_⟩:=hr.heap.objs _ (look_mem hl) trivial
 rw [hk] at hk';injection hk' with hk';injection hk' with e1 e2;subst e1;subst e2
 have hcs:l.length=cs.size:=by have:=hall.length;simpa using this
 have hz:(a.eval x).cells=#[a.eval x]:=by have:=h2.plain;cases hv:a.eval x<;>simp_all [plain,Value.cells]
 have hone:∀ q ∈ (a.eval x).cells.toList,q.oneCell'=true:=by
   intro q hq;rw [hz] at hq;simp at hq;subst hq;exact oneCell_of_plain h2.plain
 have hst:=run_storeVar_at (P:=P) (hT _ _ ht) hc (o:=i) (y:=a.eval x) (by rw [hz,hsz];rfl) (by omega) hone
 have h1:a.eval ad=.pointer (some ⟨b,i,none⟩):=by simpa using h1
 have hrun:(Instr.storeAt t (a.eval ad) (a.eval x)).run P w=.ok () (w.setRow b (cs.toList.take i++(a.eval x).cells.toList++cs.toList.drop (i+(a.eval x).cells.size)).toArray):=by rw [h1];simpa [Instr.storeAt,Instr.sureAddr] using hst
 have hnew:=hr.write (ao':=.tbx e (l.set i y)) hl trivial hk (w':=w.setRow b (cs.toList.take i++(a.eval x).cells.toList++cs.toList.drop (i+(a.eval x).cells.size)).toArray) rfl rfl rfl (by simp) (fun b' hb'=>setRow_ne hb') (by
   have e5:cs.toList.take i++(a.eval x).cells.toList++cs.toList.drop (i+(a.eval x).cells.size)=cs.toList.set i (a.eval x):=by
     rw [hz]
     simp only [List.size_toArray,List.length_cons,List.length_nil,Nat.zero_add,List.append_assoc]
     rw [List.set_eq_take_append_cons_drop,if_pos (by simp;omega)];simp
   rw [e5]
   refine ⟨_,setRow_get hc,by simpa using hm,?_⟩
   have hA:∀ b',A b'→(w.setRow b (cs.toList.set i (a.eval x)).toArray).heap[b']? = w.heap[b']?:=fun b' hb'=>setRow_ne (fun e=>hnA (e ▸ hb'))
   refine All2.mono (fun _ _=>Cell.At.mono (fun _ h=>h) hA (fun _ _ h=>h)) ?_
   simpa using All2.set h2 i hall)
 have hop:(execOp a.eval o).run P w=.ok .skip (w.setRow b (cs.toList.take i++(a.eval x).cells.toList++cs.toList.drop (i+(a.eval x).cells.size)).toArray):=by
   cases o
   dsimp only at ho;subst ho
   simp [execOp,hrun]
 refine wpI_step (fun fb k2 fs=>step_skip (by simpa using hn) (wanted_none hg) hop) ?_
 rw [hdst]
 exact hh _ _ ⟨A,ρ,hnew⟩
end
end Go.Hw
namespace Go.Hw
open Go.Conc
def CallPn (P:Program) (f:FuncId) (args:List A1) (v:Value):Prop :=
 FnOk P f∧∀ (w:World) (A:Nat→Prop) (vs:Array Value),All2 (A1.At w A (fun _=>none)) args vs.toList→(∀ b,A b→b < w.heap.size) →
   Calls P f vs w fun e w'=>e=.panicked [{ v,recovered:=false }]∧RowKit.Below w.heap.size w w'
def panQ (v:Value):Exit→St→Prop
 | .panic ch,_=>ch=[{ v,recovered:=false }]
 | _,_=>False
theorem abs_enter {P:Program} {nt k lo:Nat} {vs:Array Value} {args:List A1} {H:Heap} {w:World} {A F:Nat→Prop} {ρ:Rho} {hlo:lo≤w.heap.size} (hlen:Nat.ble args.length nt=true) (hvs:All2 (A1.At w A ρ) args vs.toList) (hH:HeapAt w A ρ H) (hA:∀ b,A b→b < w.heap.size) (hρ:∀ h,k≤h→ρ h=none)
   (hF:∀ b,blkOf ρ H b→F b):Rep { w0:=w,A0:=A,ρ0:=ρ,k0:=k,F:=F,nt:=nt,lo:=lo,hlo:=hlo,dm:=some [] } ⟨inT 0 args,H,k⟩ { tmps:=vs++Array.replicate (nt - vs.size) undef,defers:=[] } w A ρ:=by
 have hlen':vs.size≤nt:=by
   have:=hvs.length;simp at this
   have:=Nat.le_of_ble_eq_true hlen
   omega
 refine { heap:=hH,tmps:=?_,nt:=by show _=nt;simp;omega,defers:=rfl,os:=rfl,tape:=rfl,output:=rfl,size:=Nat.le_refl _,frame:=fun _ _ _=>rfl,own:=?_,imm:=fun b hb=>⟨hA b hb,.inl hb⟩,old:=fun _ _=>rfl,new:=hρ,k0:=Nat.le_refl _ }
 · intro j v hj
   obtain ⟨x,_,h1,rfl⟩:=inT_look hj
   obtain ⟨y,hy1,hy2⟩:=All2.get hvs h1
   have hy1':vs[j]? = some y:=by simpa using hy1
   have hlt:j < vs.size:=(Array.getElem?_eq_some_iff.1 hy1').1
   have:(vs++Array.replicate (nt - vs.size) undef).getD j undef=y:=by
     rw [Array.getD_eq_getD_getElem?,Array.getElem?_append,if_pos hlt,hy1'];rfl
   show A1.At w A ρ x _
   rw [this];exact hy2
 · intro x hx hxr b m hb
   exact .inl (hF b ⟨x,hx,hxr,m,hb⟩)
theorem heapAt_nil {w:World} {A:Nat→Prop} {ρ:Rho}:HeapAt w A ρ []:=⟨fun _ h=>(by cases h),List.Pairwise.nil⟩
theorem CallPn.of {P:Program} {f:FuncId} {fn:Func} {code:Code} {nt:Nat} {args:List A1} {v:Value}
   (hf:P.funcs[f]? = some fn) (hb:fn.body=some code) (hname:(fn.name == "runtime.NumGoroutine")=false) (hnt:fn.ntmps=nt) (hlen:Nat.ble args.length nt=true)
   (h:∀ c:Ctx,c.nt=nt→c.k0=0→AWp P c code (panQ v) ⟨inT 0 args,[],0⟩):CallPn P f args v:=by
 refine ⟨⟨fn,hf,hname,by simp [hb]⟩,fun w A vs hvs hA=>?_⟩
 have hr:=abs_enter (P:=P) (nt:=nt) (k:=0) (lo:=w.heap.size) (H:=[]) (F:=fun _=>False) (hlo:=Nat.le_refl _) hlen hvs heapAt_nil hA (fun _ _=>rfl) (by rintro b ⟨x,hx,_⟩;cases hx)
 rw [← hnt] at hr
 refine calls_of_wp hf hb (wp_mono (h _ hnt rfl _ w ⟨_,_,hr⟩) ?_)
 rintro e a0 w1 ⟨s,hq,A1,ρ1,hr0⟩
 cases e<;>simp only [panQ] at hq
 exact ⟨hr0.defers,by rw [hq],hr0.os,hr0.tape,hr0.output,hr0.size,fun k hk=>hr0.frame k hk (fun h=>h)⟩
def APn (P:Program) (f:FuncId) (args:List A1) (hr:Heap) (v:Value):Prop :=
 FnOk P f∧∀ (w:World) (A:Nat→Prop) (ρ:Rho) (vs:Array Value),(∀ x ∈ hr,x.2.real→∃ b m,ρ x.1=some (b,m)∧x.2.At w A ρ b m∧b < w.heap.size)→All2 (A1.At w A ρ) args vs.toList →
   Calls P f vs w fun e w'=>e=.panicked [{ v,recovered:=false }]∧RowKit.Below w.heap.size w w'
theorem APn.row {P:Program} {f:FuncId} {s:Str} {l:List Str} {v:Value} {r:Nat} {hr:Heap} (h:CallPn P f [U s,.c (.t (strsT l))] v) (hm:(r,rU l) ∈ hr):APn P f [U s,.c (.sl r 1 0 l.length)] hr v:=by
 refine ⟨h.1,fun w A ρ vs hH hvs=>?_⟩
 obtain ⟨⟨⟩⟩:=vs
 · exact hvs.elim
 rename_i v1 vs
 obtain ⟨hv1,hvs⟩:=hvs
 cases vs with
 | nil=>exact hvs.elim
 | cons v2 vs =>
 obtain ⟨hv,hvs⟩:=hvs
 cases vs with
 | cons _ _=>exact hvs.elim
 | nil =>
 have hb:∃ B:Nat→Prop,(A1.c (.t (strsT l))).At w B (fun _=>none) v2∧∀ b,B b→b < w.heap.size:=by
   rcases hv with ⟨h0,a,rfl⟩|⟨h0,b,m,cap,hk,rfl,⟨hc1,hc2⟩,_⟩
   · exact ⟨fun _=>False,⟨a,0,by rw [h0],by omega,fun i hi=>by omega⟩,fun _ h=>h.elim⟩
   · obtain ⟨b',m',hk',⟨cs,e,h1,h2,h3,h4⟩,hlt⟩:=hH (r,rU l) hm h0
     have hk':ρ r=some (b',m'):=hk'
     rw [hk] at hk';injection hk' with hk';injection hk' with e1 e2;subst e1
     refine ⟨fun x=>x=b,⟨_,_,rfl,hc1,fun i hi=>⟨b,0,by rw [Nat.zero_mul],rfl,fun j hj=>?_⟩⟩,fun x hx=>by rw [hx];exact hlt⟩
     have hj0:j=0:=by omega
     subst hj0
     obtain ⟨z,hz1,hz2⟩:=h4 i hi 0 (by omega)
     refine ⟨z,?_,?_⟩
     · rw [Nat.zero_add,cell_of_cells h1];exact hz1
     · exact hz2
 obtain ⟨B,hB1,hB2⟩:=hb
 exact h.2 w B ⟨[v1,v2]⟩ ⟨hv1,hB1,trivial⟩ hB2
theorem Rep.below {c:Ctx} {s:St} {a:Act} {w w':World} {A:Nat→Prop} {ρ:Rho} (hr:Rep c s a w A ρ) (hb:RowKit.Below w.heap.size w w'):Rep c s a w' A ρ :=
 hr.change (w':=w') (H':=s.h) (nx':=s.nx) (ρ':=ρ) (blk:=fun _=>False) hb.os hb.tape hb.output hb.size (fun b hb' _=>hb.block b hb') (fun _ h=>h.elim) (fun _ h=>h) (fun b hA=>⟨Nat.lt_of_lt_of_le (hr.imm b hA).1 hb.size,.inl hA⟩) (fun _ _ h=>h) hr.new (fun _ _=>rfl) (Nat.le_refl _) hr.own (hr.heap.below hb fun b hA=>(hr.imm b hA).1)
theorem Rep.noTmp {c:Ctx} {s:St} {a:Act} {w:World} {A:Nat→Prop} {ρ:Rho} (hr:Rep c s a w A ρ):Rep c ⟨[],s.h,s.nx⟩ a w A ρ :=
 { heap:=hr.heap,tmps:=fun k v h=>(by cases h),nt:=hr.nt,defers:=hr.defers,os:=hr.os,tape:=hr.tape,output:=hr.output,size:=hr.size,frame:=hr.frame,own:=hr.own,imm:=hr.imm,old:=hr.old,new:=hr.new,k0:=hr.k0 }
def okT (ops:Array Oper) (i:Nat):Nat→Array Bool→Plan→Bool
 | _+1,l,.done=>decide (Region.ready .any ops l=[i])
 | f+1,l,.tak j r=>(match ops[j]? with
   | some o=>quietK o.op
   | none=>false) && Region.free .any ops l j && (Region.ready .any ops l).contains j && okT ops i f (l.setIfInBounds j true) r
 | _,_,_=>false
section
variable {P:Program} {ti:Nat→Option TI} {c:Ctx} {hr:Heap}
theorem runT_sound (hT:TOk P ti) (hd:DOk c hr) {ops:Array Oper} {i:Nat} (hsel:Region.noSelect ops=true) (hnt:∀ o ∈ ops.toList,∀ d,o.dst=some d→d < c.nt) {K:St→Prop} {Q:Exit→Act→World→Prop}
   (hpan:∀ x a w d v,Q (.panic x) (Act.put a d v) w→Q (.panic x) a w)
   (hQ:∀ s a w A ρ,K s→Rep c s a w A ρ→(∀ b,c.A0 b→A b)→wpOp P ops Q i (fun _ _=>False) a w) :
   ∀ (pl:Plan) {f:Nat} {l:Array Bool} {to:List (Nat × AV)} {s:St} {a:Act} {w:World},okT ops i f l pl=true→runP P ti ops.toList hr c.k0 pl to s K→DInv c to s a w→wpAnyH P .any ops Q (SD c) f l a w
 | .done,0,l,to,s,a,w,hok,h,_=>by simp [okT] at hok
 | .done,f+1,l,to,s,a,w,hok,h,⟨A,ρ,hrep,hA,hto⟩=>by
   simp only [okT,decide_eq_true_eq] at hok
   rw [runP] at h
   refine wpAnyH_all hok (by simp) (fun j hj=>?_)
   have hj:j=i:=by simpa using hj
   subst hj
   exact wpOp_mono (fun _ _ h=>h.elim) (hQ s a w A ρ h hrep hA)
 | .all b,f,l,to,s,a,w,hok,h,_=>by cases f<;>simp [okT] at hok
 | .tak j r,0,l,to,s,a,w,hok,h,_=>by simp [okT] at hok
 | .tak j r, f + 1,l,to,s,a,w,hok,h,⟨A,ρ,hrep,hA,hto⟩=>by
   simp only [okT,Bool.and_eq_true] at hok
   obtain ⟨⟨⟨h1,h2⟩,h3⟩,h4⟩:=hok
   have ih:=fun {to s a w}=>runT_sound hT hd hsel hnt hpan hQ r (to:=to) (s:=s) (a:=a) (w:=w) h4
   rw [runP] at h
   cases ho':ops[j]? with
   | none=>rw [ho'] at h1;simp at h1
   | some o =>
     have ho:ops.toList[j]? = some o:=by simpa using ho'
     rw [ho'] at h1;dsimp only at h1
     rw [ho,takI] at h
     have hS:SD c w:=fun b hb hF=>hrep.frame b hb hF
     have hmem:o ∈ ops.toList:=List.mem_of_getElem? ho
     have hdl:∀ k,o.dst=some k→k < a.tmps.size:=fun k hk=>by rw [hrep.nt];exact hnt o hmem k hk
     have hdc:∀ k,o.dst=some k→k < c.nt:=fun k hk=>hnt o hmem k hk
     cases hb:wantA ops.toList s o.guard with
     | none=>rw [hb,takG] at h;exact h.elim
     | some bw =>
       obtain ⟨b,want⟩:=bw
       rw [hb,takG] at h
       have hw:=wantA_sound hrep hnt hb
       split at h
       · rename_i hbw
         have hw':Region.wanted o (yielded ops a.tmps)=true:=by rw [hw];simp [hbw]
         cases hao:aop ti ⟨to,hr,c.k0⟩ o.op with
         | some q =>
           obtain ⟨p,v,h',nx'⟩:=q
           rw [hao,takO] at h
           obtain ⟨hp,hK⟩:=h
           obtain ⟨_,_,y,hy1,hy2⟩:=quiet_sound hT (rep_old hd hrep hto) hao hp h1
           refine wpAnyH_take ho' hsel h2 h3 (fun x a w h=>hpan x a w _ _ h) (.inl ⟨hw',fun w1 hw1=>hy2 w1 (fun _ b hb=>?_)⟩) hS (ih hK ⟨A,ρ,hrep.put hdc (old_at hd hrep hA hy1),hA,keep_put hto hdl hy1⟩)
           rcases hb with hb|hb
           · exact hw1 b (hd.imm b hb).1 (hd.imm b hb).2
           · refine hw1 b ?_ (hd.ro b hb)
             obtain ⟨x,hx,hxr,m,hk⟩:=hb
             obtain ⟨b',m',hk',_,_,hlt⟩:=hd.heap.objs x hx hxr
             have hk:c.ρ0 x.1=some (b,m):=hk
             rw [hk] at hk';injection hk' with hk';injection hk' with e1 e2;subst e1;exact hlt
         | none =>
           rw [hao,takO] at h
           cases hlk:loadK o.op with
           | true =>
             rw [hlk,takW] at h
             · exact h.elim
             · intro _ _ _ _ h1 _;cases h1
           | false =>
             cases has:aop ti s o.op with
             | none =>
               rw [hlk,has,takW] at h
               · exact h.elim
               · intro _ _ _ _ _ h1;cases h1
             | some q =>
               obtain ⟨p,v,h',nx'⟩:=q
               rw [hlk,has,takW] at h
               obtain ⟨hp,hcv,hK⟩:=h
               have hno:¬ (loadK o.op=true ∨ (isCv o.op=true∧cvS v=true)):=by
                 rintro (h|⟨h,h'⟩)
                 · rw [hlk] at h;cases h
                 · rw [h] at hcv
                   have hcv:cvS v=false:=hcv
                   rw [hcv] at h';cases h'
               obtain ⟨_,_,y,hy1,hy2⟩:=quiet_sound hT hrep has hp h1
               exact wpAnyH_take ho' hsel h2 h3 (fun x a w h=>hpan x a w _ _ h) (.inl ⟨hw',fun w1 hw1=>hy2 w1 (fun h=>absurd h hno)⟩) hS (ih hK ⟨A,ρ,hrep.put hdc hy1,hA,keep_clr hto⟩)
       · rename_i hbw
         have hw':Region.wanted o (yielded ops a.tmps)=false:=by rw [hw];simpa using hbw
         exact wpAnyH_take ho' hsel h2 h3 (fun x a w h=>hpan x a w _ _ h) (.inr ⟨hw',rfl⟩) hS (ih h ⟨A,ρ,hrep.put hdc undef_at,hA,keep_clr hto⟩)
end
theorem below_of {w0 w w':World} (h1:RowKit.Below w0.heap.size w0 w) (h2:RowKit.Below w.heap.size w w'):RowKit.Below w0.heap.size w0 w':=h1.trans (h2.mono h1.size)
theorem put_size {a:Act} {d:Option Nat} {v:Value}:(a.put d v).tmps.size=a.tmps.size∧(a.put d v).defers=a.defers:=by
 cases d<;>simp [Act.put]
theorem AWp.drawP {P:Program} {ti:Nat→Option TI} {c:Ctx} {Q:Exit→St→Prop} {s:St} (hT:TOk P ti) (hmix:P.follows .mixedOrders=true) (hdm:∃ l,c.dm=some l) {id:Nat} {ops:List Oper} (i:Nat) (v:Value) (pl:Plan) (keep:List Nat)
   (hok:okT ⟨ops⟩ i ops.length (Array.replicate ops.length false) pl=true) (hsel:Region.noSelect ⟨ops⟩=true) (hd:dstOk c.nt ops=true)
   (h:runP P ti ops s.h s.nx pl (keepL s.t keep) ⟨s.t,[],s.nx⟩ (fun s'=>∃ o f args,ops[i]? = some o∧o.guard=none∧callA ti s' o.op=some (f,args)∧APn P f args s.h v))
   (hQ:Q (.panic [{ v,recovered:=false }]) ⟨[],s.h,s.nx⟩):AWp P c (.region id ⟨ops⟩ true) Q s:=by
 obtain ⟨dl,hdm⟩:=hdm
 rintro a w ⟨A,ρ,hr0⟩
 have hr:=hr0.drew
 let c2:Ctx:={ w0:=w.drew,A0:=A,ρ0:=ρ,k0:=s.nx,F:=fun _=>False,nt:=c.nt,lo:=c.lo,hlo:=Nat.le_trans c.hlo hr.size,dm:=c.dm }
 have hdok:DOk c2 s.h:={ heap:=hr.heap,imm:=fun b hb=>⟨(hr.imm b hb).1,fun h=>h⟩,ro:=fun _ _ h=>h,new:=hr.new }
 have hrep2:Rep c2 ⟨s.t,[],s.nx⟩ a w.drew A ρ :=
   { heap:=heapAt_nil,tmps:=hr.tmps,nt:=hr.nt,defers:=hr.defers,os:=rfl,tape:=rfl,output:=rfl,size:=Nat.le_refl _,frame:=fun _ _ _=>rfl,
     own:=fun x hx=>(by cases hx),imm:=fun b hb=>⟨(hr.imm b hb).1,.inl hb⟩,old:=fun _ _=>rfl,new:=hr.new,k0:=Nat.le_refl _ }
 have hnt:∀ o ∈ (⟨ops⟩:Array Oper).toList,∀ d,o.dst=some d→d < c2.nt:=by
   intro o ho d hod
   simp only [dstOk,List.all_eq_true] at hd
   have:=hd o ho
   rw [hod] at this
   simpa using this
 have key:=runT_sound (P:=P) (i:=i) (Q:=fun e a' w'=>e=.panic [{ v,recovered:=false }]∧a'.tmps.size=c.nt∧a'.defers=dl∧RowKit.Below w.drew.heap.size w.drew w') hT hdok hsel hnt
   (by rintro x a w d v ⟨h1,h2,h3,h4⟩;rw [put_size.1] at h2;rw [put_size.2] at h3;exact ⟨h1,h2,h3,h4⟩)
   (K:=fun s'=>∃ o f args,ops[i]? = some o∧o.guard=none∧callA ti s' o.op=some (f,args)∧APn P f args s.h v) (by
   rintro s' a' w' A' ρ' ⟨o,f,args,ho,hg,hc,hAP⟩ hr' hA'
   have ho':(⟨ops⟩:Array Oper)[i]? = some o:=by simpa using ho
   have hbel:RowKit.Below w.drew.heap.size w.drew w':=⟨hr'.os,hr'.tape,hr'.output,hr'.size,fun b hb=>hr'.frame b hb (fun h=>h)⟩
   have hρ:=rho_le hdok hr'
   unfold wpOp
   simp only [ho']
   rw [if_pos (wanted_none hg)]
   left
   unfold Oper.wp
   obtain ⟨vs,h1,h2⟩:=callA_sound hT hr' hc hAP.1
   rw [h1,Oper.upon_enter]
   refine (hAP.2 w' A' ρ' vs (fun x hx hxr=>?_) h2).mono ?_
   · obtain ⟨b,m,e1,e2,e3,e4⟩:=hr.heap.objs x hx hxr
     exact ⟨b,m,hρ _ _ e1,e2.mono hA' (fun b' hb'=>hbel.block b' (hr.imm b' hb').1) hρ (hbel.block b e4),Nat.lt_of_lt_of_le e4 hbel.size⟩
   · rintro e w'' ⟨rfl,hb2⟩
     refine ⟨rfl,hr'.nt,?_,below_of hbel hb2⟩
     have hd2:Dfs c A' a'.defers w':=hr'.defers
     unfold Dfs at hd2;rw [hdm] at hd2;exact hd2) pl (f:=ops.length) (l:=Array.replicate ops.length false) (to:=keepL s.t keep) (s:=⟨s.t,[],s.nx⟩) (a:=a) (w:=w.drew) hok h
   ⟨A,ρ,hrep2,fun _ h=>h,fun k v hk=>hr.tmps k v (look_keepL hk)⟩
 refine wp_mono (wp_region_held (S:=SD c2) (Q:=fun e a' w'=>e=.panic [{ v,recovered:=false }]∧a'.tmps.size=c.nt∧a'.defers=dl∧RowKit.Below w.drew.heap.size w.drew w') hmix ?_) ?_
 · exact key
 · rintro e a' w' ⟨rfl,h1,h2,h3⟩
   refine ⟨_,hQ,A,ρ,?_⟩
   have hr3:=(hr.below h3).noTmp
   exact { heap:=hr3.heap,tmps:=fun k v h=>(by cases h),nt:=h1,defers:=(by unfold Dfs;rw [hdm];exact h2),os:=hr3.os,tape:=hr3.tape,output:=hr3.output,size:=hr3.size,frame:=hr3.frame,own:=hr3.own,imm:=hr3.imm,old:=hr3.old,new:=hr3.new,k0:=hr3.k0 }
theorem fin_done {P:Program} {ti:Nat→Option TI} (hT:TOk P ti) {c:Ctx} {s:St} {a':Act} {w':World} {A1:Nat→Prop} {ρ1:Rho} {fn:Func} {rs:List ResultVar} (hrs:fn.results=⟨rs⟩) {k k':Nat} {res:AV} {H':Heap} (hk:k≤k') (hk0:k≤c.k0)
   (hr:Rep c s a' w' A1 ρ1) (hfin:Fin ti rs k res H' k' s):∃ v,(results fn a'.tmps).run P w'=.ok v w'∧∃ A' ρ',res.At w' A' ρ' v∧HeapAt w' A' ρ' H'∧w'.os=c.w0.os∧w'.tape=c.w0.tape∧w'.output=c.w0.output∧c.w0.heap.size≤w'.heap.size ∧
     (∀ b,b < c.w0.heap.size→¬ c.F b→w'.heap[b]? = c.w0.heap[b]?) ∧
     (∀ b,A' b→b < w'.heap.size∧(c.A0 b ∨ c.F b ∨ c.w0.heap.size≤b)) ∧
     (∀ y ∈ H',y.2.real→∀ b m,ρ' y.1=some (b,m)→c.F b ∨ c.w0.heap.size≤b) ∧
     (∀ h,h < k→ρ' h=c.ρ0 h)∧(∀ h,k'≤h→ρ' h=none):=by
 obtain ⟨τ,fz,p0,l,h1,h2,h3,h4,h5,h6⟩:=hfin
 obtain ⟨y,hy1,hy2⟩:=results_sound hT hr hrs h1 h2
 let A':Nat→Prop:=fun b=>A1 b ∨ ∃ h o,fz h∧look h s.h=some o∧o.real∧∃ m,ρ1 h=some (b,m)
 have hAA:∀ b,A1 b→A' b:=fun b hb=>.inl hb
 have hfz:∀ h o,fz h→look h s.h=some o→o.real→∀ b m,ρ1 h=some (b,m)→A' b:=fun h o hh hl hor b m hk=>.inr ⟨h,o,hh,hl,hor,m,hk⟩
 obtain ⟨hH',hdom⟩:=hle_sound hr.heap hAA hfz (fun b hb=>hb) h6
 have hmem:∀ h o b m,look h s.h=some o→o.real→ρ1 h=some (b,m)→(c.F b ∨ c.w0.heap.size≤b)∧b < w'.heap.size:=by
   intro h o b m hl hor hk
   refine ⟨hr.own _ (look_mem hl) hor b m hk,?_⟩
   obtain ⟨b',m',hk',_,_,hlt⟩:=hr.heap.objs _ (look_mem hl) hor
   rw [hk] at hk';injection hk' with hk';injection hk' with e1 e2;subst e1;exact hlt
 refine ⟨y,hy1,A',rhoR ρ1 τ k',avle_sound hr.heap hAA hfz h5 hy2,hH',hr.os,hr.tape,hr.output,hr.size,?_,?_,?_,?_,?_⟩
 · intro b hb hn
   exact hr.frame b hb hn
 · rintro b (hb|⟨h,o,_,ho,hor,m,hk⟩)
   · exact hr.imm b hb
   · have:=hmem h o b m ho hor hk
     exact ⟨this.2,.inr this.1⟩
 · intro x hx hxr b m hb
   obtain ⟨o,e1,hor,e2⟩:=hdom x hx hxr
   unfold rhoR at hb;rw [if_pos e2] at hb
   exact (hmem _ o b m e1 hor hb).1
 · intro h hh
   have e:rn τ h=h:=by
     unfold rn
     cases hl:look h τ with
     | none=>rfl
     | some x=>have:=h3 _ (look_mem hl);simp at this;omega
   unfold rhoR;rw [if_pos (by omega),e];exact hr.old h (by omega)
 · intro h hh
   unfold rhoR;rw [if_neg (by omega)]
theorem step_recover {P:Program} {ops:Array Oper} {i:Nat} {rest:List Nat} {o:Oper} {a:Act} {w:World} {b:Frame} {k:List Item} {cs cs':List Frame} {v:Value} (ho:ops[i]? = some o) (hg:o.guard=none) (hop:o.op=.call ⟨.builtin .recover,#[],#[]⟩) (hb:b.kind=.deferred)
   (h:recoverD cs=some (v,cs') ∨ (recoverD cs=none∧v=.nilIface∧cs'=cs)) :
   step P (lone (b.at a (.inRegion ops (i ::rest) ::k)) cs w)=.next (lone (b.at (a.put o.dst v) (.inRegion ops rest ::k)) cs' w):=by
 have hw:Region.wanted o (yielded ops a.tmps)=true:=by simp [Region.wanted,hg]
 have hr:(execOp a.eval o).run P w=.ok .recover w:=by
   obtain ⟨_,op,_,_,_,_⟩:=o
   dsimp only at hop;subst hop
   simp [execOp,resolve,invoke,builtin]
 have hgg:=stepG_op (P:=P) (b:=b) (k:=k) (cs:=cs) (w:=w) (rest:=rest) ho hw
 have hfin:∀ v,(b.at a (.inRegion ops (i ::rest) ::k)).finish v=b.at (a.put o.dst v) (.inRegion ops rest ::k):=by
   intro v;rw [Frame.finish_at,ho];rfl
 have hk:(b.at a (.inRegion ops (i ::rest) ::k)).kind=.deferred:=hb
 have htr:=tryRecover_deferred hk cs
 rcases h with hrec|⟨hrec,rfl,rfl⟩
 · refine step_lone_go ?_
   rw [hgg,← hfin]
   simp only [Frame.at] at htr ⊢
   simp [stepG.apply,hr,htr,hrec]
 · refine step_lone_go ?_
   rw [hgg,← hfin]
   simp only [Frame.at] at htr ⊢
   simp [stepG.apply,hr,htr,hrec]
theorem step_put_off {P:Program} {ops:Array Oper} {i:Nat} {rest:List Nat} {o:Oper} {a:Act} {w:World} {b:Frame} {k:List Item} {cs:List Frame} {d:Deferred} (ho:ops[i]? = some o) (hg:o.guard=none) (hr:(execOp a.eval o).run P w=.ok (.defer d) w) :
   step P (lone (b.at a (.inRegion ops (i ::rest) ::k)) cs w)=.next (lone (b.at ({ a with defers:=d ::a.defers }.put o.dst undef) (.inRegion ops rest ::k)) cs w):=by
 have hw:Region.wanted o (yielded ops a.tmps)=true:=by simp [Region.wanted,hg]
 refine step_lone_go ?_
 rw [stepG_op ho hw]
 have:({ b.at a (.inRegion ops (i ::rest) ::k) with defers:=d ::a.defers }:Frame).finish undef=b.at ({ a with defers:=d ::a.defers }.put o.dst undef) (.inRegion ops rest ::k):=by
   have:=Frame.finish_at b { a with defers:=d ::a.defers } ops i rest k undef
   rw [ho] at this;exact this
 simp only [stepG.apply,Sem.runT_eq,hr,GStep.bare_after]
 exact congrArg (fun fr=>GStep.go { frame:=fr,callers:=cs,status:=.running,dying:=none } w) this
theorem dx_core {P:Program} {g:FuncId} {fn:Func} {rc:Oper} {ops:List Oper} {rest:Code} {id0:Nat} (hf:P.funcs[g]? = some fn) (hbody:fn.body=some (.seq (.region id0 ⟨rc ::ops⟩ false) rest)) (hrc:rc.op=.call ⟨.builtin .recover,#[],#[]⟩) (hg:rc.guard=none)
   {vs:Array Value} {w:World} {u u':FrameMode} {v:Value} {R:Ending→FrameMode→World→Prop}
   (hrec:∀ (c₀:Frame) (cs:List Frame),c₀.mode=u→recoverD (c₀ ::cs)=some (v,{ c₀ with mode:=u' } ::cs) ∨ (recoverD (c₀ ::cs)=none∧v=.nilIface∧{ c₀ with mode:=u' } ::cs=c₀ ::cs))
   {c:Ctx} {s0:St} {Q:Exit→St→Prop} (habs:Abs c s0 (Act.put { tmps:=vs++Array.replicate (fn.ntmps - vs.size) undef,defers:=[] } rc.dst v) w)
   (h:AWpI P c (rc ::ops) 1 (fun e s=>e=.normal∧AWp P c rest Q s) s0)
   (hfin:∀ e s a' w',Q e s→Abs c s a' w'→(e=.normal ∨ e=.ret)∧a'.defers=[]∧∃ y,(results fn a'.tmps).run P w'=.ok y w'∧R (.returned y) u' w'):CallsD P g vs u w R:=by
 refine callsD_of_wpS hf hbody (fun c₀ cs hu=>?_)
 refine wpS_seq ?_
 intro b k hb hro
 have hstep:=step_recover (P:=P) (ops:=⟨rc ::ops⟩) (i:=0) (rest:=List.range' 1 ops.length) (o:=rc) (a:={ tmps:=vs++Array.replicate (fn.ntmps - vs.size) undef,defers:=[] }) (w:=w) (b:=b) (k:=k) rfl hg hrc hb (hrec c₀ cs hu)
 obtain ⟨e,a',w',⟨s',⟨rfl,hrest⟩,habs'⟩,harr⟩:=h _ w habs b k ({ c₀ with mode:=u' } ::cs)
 refine ⟨.normal,a',_,w',?_,.of_steps (.head ?_ (.one hstep)) harr⟩
 · show Code.wpS P rest _ a' _ w'
   refine wpS_of_wp (wp_mono (hrest a' w' habs') ?_)
   rintro e a2 w2 ⟨s2,hq,hab2⟩
   obtain ⟨he,hd,y,hy1,hy2⟩:=hfin e s2 a2 w2 hq hab2
   rcases he with rfl|rfl<;>exact ⟨hd,u',rfl,y,hy1,hy2⟩
 · have:=step_region (P:=P) (id:=id0) (ops:=⟨rc ::ops⟩) (b:=b) (a:={ tmps:=vs++Array.replicate (fn.ntmps - vs.size) undef,defers:=[] }) (k:=k) (cs:=c₀ ::cs) (w:=w)
   rw [List.range_eq_range'] at this
   exact this
def DKeep (P:Program) (g:FuncId):Prop :=
 ∀ (w:World) (vs:Array Value),vs.size=1→CallsD P g vs .returning w fun e u' w'=>(∃ y,e=.returned y)∧u'=.returning∧RowKit.Below w.heap.size w w'
theorem rep_bare {nt lo:Nat} {a:Act} {w:World} {hlo:lo≤w.heap.size} (h1:a.tmps.size=nt) (h2:a.defers=[]):Rep { w0:=w,A0:=fun _=>False,ρ0:=fun _=>none,k0:=0,F:=fun _=>False,nt:=nt,lo:=lo,hlo:=hlo,dm:=some [] } ⟨[],[],0⟩ a w (fun _=>False) (fun _=>none) :=
 { heap:=heapAt_nil,tmps:=fun k v h=>(by cases h),nt:=h1,defers:=h2,os:=rfl,tape:=rfl,output:=rfl,size:=Nat.le_refl _,frame:=fun _ _ _=>rfl,own:=fun x hx=>(by cases hx),imm:=fun b hb=>hb.elim,old:=fun _ _=>rfl,new:=fun _ _=>rfl,k0:=Nat.le_refl _ }
theorem results_nil {P:Program} {fn:Func} (hrs:fn.results=⟨[]⟩) (tmps:Array Value) (w:World):(results fn tmps).run P w=.ok (.tuple #[]) w:=by
 rw [results_eq];simp only [Sem.run_bind];rw [hrs];simp
theorem DKeep.of {P:Program} {g:FuncId} {fn:Func} {rc:Oper} {ops:List Oper} {rest:Code} {id0 nt d:Nat} (hf:P.funcs[g]? = some fn) (hbody:fn.body=some (.seq (.region id0 ⟨rc ::ops⟩ false) rest)) (hnt:fn.ntmps=nt) (hrs:fn.results=⟨[]⟩) (hrc:rc.op=.call ⟨.builtin .recover,#[],#[]⟩) (hg:rc.guard=none) (hd:rc.dst=some d) (hdn:Nat.ble d.succ nt=true) (h1:1≤nt)
   (h:∀ c:Ctx,c.nt=nt→c.k0=0→AWpI P c (rc ::ops) 1 (fun e s=>e=.normal∧AWp P c rest (fun e _=>e=.normal ∨ e=.ret) s) ⟨[(d,.o (.c (.t (.v .nilIface))))],[],0⟩):DKeep P g:=by
 intro w vs hvs
 have hr:=rep_bare (nt:=nt) (lo:=w.heap.size) (w:=w) (hlo:=Nat.le_refl _) (a:={ tmps:=vs++Array.replicate (fn.ntmps - vs.size) undef,defers:=[] }) (by simp [hnt];omega) rfl
 have hr2:=hr.put (d:=some d) (v:=.o (.c (.t (.v .nilIface)))) (y:=.nilIface) (fun k hk=>by injection hk with hk;subst hk;exact Nat.le_of_ble_eq_true hdn) ⟨rfl,rfl⟩
 rw [← hd] at hr2
 refine dx_core (u':=.returning) (v:=.nilIface) hf hbody hrc hg ?_ ⟨_,_,by rw [hd] at hr2 ⊢;exact hr2⟩ (h _ rfl rfl) ?_
 · intro c₀ cs hu
   right
   refine ⟨by simp [recoverD,hu],rfl,?_⟩
   have:({ c₀ with mode:=FrameMode.returning }:Frame)=c₀:=by rw [← hu]
   rw [this]
 · rintro e s a' w' hq ⟨A,ρ,hr3⟩
   exact ⟨hq,hr3.defers,_,results_nil hrs _ _,⟨_,rfl⟩,rfl,hr3.os,hr3.tape,hr3.output,hr3.size,fun b hb=>hr3.frame b hb (fun h=>h)⟩
def DCall {α:Type} (P:Program) (g:FuncId) (args:List A1) (v:Value) (H:Heap) (k:Nat) (p:α→Prop) (H':α→Heap) (k':Nat):Prop :=
 k ≤ k'∧∀ (w:World) (A:Nat→Prop) (ρ:Rho) (vs:Array Value),All2 (A1.At w A ρ) args vs.toList→HeapAt w A ρ H→(∀ b,A b→b < w.heap.size)→(∀ h,k≤h→ρ h=none) →
   CallsD P g vs (.panicking [{ v,recovered:=false }]) w fun e u2 w'=>∃ x y A' ρ',p x∧e=.returned y∧u2=.panicking [{ v,recovered:=true }]∧HeapAt w' A' ρ' (H' x)∧w'.os=w.os∧w'.tape=w.tape∧w'.output=w.output∧w.heap.size≤w'.heap.size ∧
     (∀ b,b < w.heap.size→¬ blkOf ρ H b→w'.heap[b]? = w.heap[b]?) ∧
     (∀ b,A' b→b < w'.heap.size∧(A b ∨ blkOf ρ H b ∨ w.heap.size≤b)) ∧
     (∀ y ∈ H' x,y.2.real→∀ b m,ρ' y.1=some (b,m)→blkOf ρ H b ∨ w.heap.size≤b) ∧
     (∀ h,h < k→ρ' h=ρ h)∧(∀ h,k'≤h→ρ' h=none)
theorem DCall.of {α:Type} {P:Program} {ti:Nat→Option TI} (hT:TOk P ti) {g:FuncId} {fn:Func} {rc:Oper} {ops:List Oper} {rest:Code} {id0 nt d:Nat} {args:List A1} {t:TypeId} {H:Heap} {k k':Nat} {p:α→Prop} {H':α→Heap} (hf:P.funcs[g]? = some fn) (hbody:fn.body=some (.seq (.region id0 ⟨rc ::ops⟩ false) rest)) (hnt:fn.ntmps=nt) (hrs:fn.results=⟨[]⟩) (hrc:rc.op=.call ⟨.builtin .recover,#[],#[]⟩) (hg:rc.guard=none) (hd:rc.dst=some d) (hdn:Nat.ble d.succ nt=true) (hlen:Nat.ble args.length nt=true) (hkk:k≤k')
   (h:∀ c:Ctx,c.nt=nt→c.k0=k→AWpI P c (rc ::ops) 1 (fun e s=>e=.normal∧AWp P c rest (finQ ti [] k p (fun _=>.tup []) H' k') s) ⟨(d,.o (.c (.t (.v (.iface t (.agg #[])))))) ::inT 0 args,H,k⟩):DCall P g args (.iface t (.agg #[])) H k p H' k':=by
 refine ⟨hkk,fun w A ρ vs hvs hH hA hρ=>?_⟩
 have hr:=abs_enter (P:=P) (nt:=nt) (k:=k) (lo:=w.heap.size) (F:=blkOf ρ H) (hlo:=Nat.le_refl _) hlen hvs hH hA hρ (fun _ h=>h)
 have hr2:=hr.put (d:=some d) (v:=.o (.c (.t (.v (.iface t (.agg #[])))))) (y:=.iface t (.agg #[])) (fun k hk=>by injection hk with hk;subst hk;exact Nat.le_of_ble_eq_true hdn) ⟨rfl,rfl⟩
 refine dx_core (u':=.panicking [{ v:=.iface t (.agg #[]),recovered:=true }]) (v:=.iface t (.agg #[])) hf hbody hrc hg ?_ ⟨_,_,by rw [hd,hnt];exact hr2⟩ (h _ rfl rfl) ?_
 · intro c₀ cs hu
   left
   simp [recoverD,hu]
 · rintro e s a' w' hq ⟨A1,ρ1,hr3⟩
   cases e with
   | normal =>
     obtain ⟨x,hp,hF⟩:=hq
     obtain ⟨y,hy1,A',ρ',_,rest⟩:=fin_done hT hrs hkk (Nat.le_refl _) hr3 hF
     exact ⟨.inl rfl,hr3.defers,y,hy1,x,y,A',ρ',hp,rfl,rfl,rest⟩
   | ret =>
     obtain ⟨x,hp,hF⟩:=hq
     obtain ⟨y,hy1,A',ρ',_,rest⟩:=fin_done hT hrs hkk (Nat.le_refl _) hr3 hF
     exact ⟨.inr rfl,hr3.defers,y,hy1,x,y,A',ρ',hp,rfl,rfl,rest⟩
   | _=>exact hq.elim
def defQ {α:Type} (P:Program) (ti:Nat→Option TI) (g:FuncId) (hb k:Nat) (v:Value) (p:α→Prop) (H':α→Heap) (k':Nat):Exit→St→Prop
 | .normal,s=>∃ x,p x∧Fin ti [] k (.tup []) (H' x) k' s
 | .ret,s=>∃ x,p x∧Fin ti [] k (.tup []) (H' x) k' s
 | .panic ch,s=>ch=[{ v,recovered:=false }]∧DCall P g [.c (.ptr hb 0 0 0)] v s.h s.nx p H' k'
 | _,_=>False
def onlyQ (K:St→Prop):Exit→St→Prop
 | .normal,s=>K s
 | _,_=>False
theorem CallX.ofD {α:Type} {P:Program} {ti:Nat→Option TI} (hT:TOk P ti) {f g:FuncId} {fn:Func} {ops0:List Oper} {rest:Code} {id0 id1 d x ty1 ty2 nt:Nat} {pos1 pos2:String} {aft1 aft2:Array Edge} {args:List A1} {H:Heap} {k hb:Nat} {v:Value} {p:α→Prop} {H':α→Heap} {k':Nat}
   (hf:P.funcs[f]? = some fn) (hbody:fn.body=some (.seq (.region id0 ⟨ops0⟩ false) (.seq (.region id1 ⟨[⟨some d,.makeFunc (.func g) #[] #[.tmp x],ty1,pos1,aft1,none⟩,⟨none,.defer ⟨.value (.tmp d),#[],#[]⟩,ty2,pos2,aft2,none⟩]⟩ false) rest))) (hname:(fn.name == "runtime.NumGoroutine")=false) (hnt:fn.ntmps=nt) (hrs:fn.results=⟨[]⟩) (hlen:Nat.ble args.length nt=true) (hkk:k≤k')
   (hgf:FnOk P g) (hgk:DKeep P g) (hd:Nat.ble d.succ nt=true) (hdst:dstOk nt ops0=true)
   (h:∀ c:Ctx,c.nt=nt→c.k0=k→runR P ti ops0 ops0 ⟨inT 0 args,H,k⟩ fun s1=>look x s1.t=some (.o (.c (.ptr hb 0 0 0)))∧∀ c:Ctx,c.nt=nt→c.k0=s1.nx→(∃ l,c.dm=some l)→AWp P c rest (defQ P ti g hb k v p H' k') ⟨(d,.o (.c (.fp false g hb 0 0 0))) ::s1.t,s1.h,s1.nx⟩) :
   CallX P f args H k p (fun _=>.tup []) H' k':=by
 refine ⟨⟨fn,hf,hname,by simp [hbody]⟩,hkk,fun w A ρ vs hvs hH hA hρ=>?_⟩
 have hr:=abs_enter (P:=P) (nt:=nt) (k:=k) (lo:=w.heap.size) (F:=blkOf ρ H) (hlo:=Nat.le_refl _) hlen hvs hH hA hρ (fun _ h=>h)
 refine calls_of_wp_defers hf hbody ?_
 rw [hnt]
 let c:Ctx:={ w0:=w,A0:=A,ρ0:=ρ,k0:=k,F:=blkOf ρ H,nt:=nt,lo:=w.heap.size,hlo:=Nat.le_refl _,dm:=some [] }
 have hreg:AWp P c (.region id0 ⟨ops0⟩ false) (onlyQ _) ⟨inT 0 args,H,k⟩:=AWp.region hT hdst (h c rfl rfl)
 refine wp_seq (wp_mono (hreg _ w ⟨A,ρ,hr⟩) ?_)
 rintro e a1 w1 ⟨s1,hK,A1,ρ1,hr1⟩
 cases e<;>try exact hK.elim
 obtain ⟨hx,hrest⟩:=hK
 show (Code.seq _ _).wp P _ a1 w1
 refine wp_seq ?_
 obtain ⟨b,m,hb1,hb2⟩:=hr1.tmps _ _ hx
 have hb2:a1.tmps.getD x undef=.pointer (some ⟨b,0 * 0+0,none⟩):=hb2
 have hdn:d < nt:=Nat.le_of_ble_eq_true hd
 have hv:(AV.o (.c (.fp false g hb 0 0 0))).At w1 A1 ρ1 (.func (.func g) #[] #[.pointer (some ⟨b,0 * 0+0,none⟩)]):=⟨b,m,hb1,rfl⟩
 have hr2:=hr1.put (d:=some d) (fun k hk=>by injection hk with hk;subst hk;exact hdn) hv
 let dd:Deferred:={ target:=.fn (.func g) #[.pointer (some ⟨b,0 * 0+0,none⟩)],args:=#[] }
 let c2:Ctx:={ w0:=w,A0:=A,ρ0:=ρ1,k0:=s1.nx,F:=blkOf ρ H,nt:=nt,lo:=w.heap.size,hlo:=Nat.le_refl _,dm:=some [dd] }
 let a2:Act:=a1.put (some d) (.func (.func g) #[] #[.pointer (some ⟨b,0 * 0+0,none⟩)])
 have hev:a2.eval (.tmp d)=.func (.func g) #[] #[.pointer (some ⟨b,0 * 0+0,none⟩)]:=getD_set_self (by rw [hr1.nt];exact hdn)
 have hr3:Rep c2 ⟨(d,.o (.c (.fp false g hb 0 0 0))) ::s1.t,s1.h,s1.nx⟩ { a2 with defers:=[dd] } w1 A1 ρ1 :=
   { heap:=hr2.heap,tmps:=hr2.tmps,nt:=hr2.nt,defers:=rfl,os:=hr2.os,tape:=hr2.tape,output:=hr2.output,size:=hr2.size,frame:=hr2.frame,own:=hr2.own,imm:=hr2.imm,old:=fun _ _=>rfl,new:=hr2.new,k0:=Nat.le_refl _ }
 have hde:a2.defers=[]:=hr2.defers
 have hbx:hb < s1.nx:=by
   rcases Nat.lt_or_ge hb s1.nx with h|h
   · exact h
   · rw [hr1.new hb h] at hb1;cases hb1
 intro bF kF csF
 have e1:=step_value (P:=P) (ops:=⟨[⟨some d,.makeFunc (.func g) #[] #[.tmp x],ty1,pos1,aft1,none⟩,⟨none,.defer ⟨.value (.tmp d),#[],#[]⟩,ty2,pos2,aft2,none⟩]⟩) (i:=0) (rest:=[1]) (o:=⟨some d,.makeFunc (.func g) #[] #[.tmp x],ty1,pos1,aft1,none⟩) (a:=a1) (w:=w1) (w':=w1) (v:=.func (.func g) #[] #[.pointer (some ⟨b,0 * 0+0,none⟩)]) (b:=bF) (k:=kF) (cs:=csF) rfl (wanted_none rfl) (by
   have:a1.eval (.tmp x)=.pointer (some ⟨b,0 * 0+0,none⟩):=hb2
   simp [execOp,Instr.makeFunc,this])
 have e2:=step_put_off (P:=P) (ops:=⟨[⟨some d,.makeFunc (.func g) #[] #[.tmp x],ty1,pos1,aft1,none⟩,⟨none,.defer ⟨.value (.tmp d),#[],#[]⟩,ty2,pos2,aft2,none⟩]⟩) (i:=1) (rest:=[]) (o:=⟨none,.defer ⟨.value (.tmp d),#[],#[]⟩,ty2,pos2,aft2,none⟩) (a:=a2) (w:=w1) (d:=dd) (b:=bF) (k:=kF) (cs:=csF) rfl rfl (by
   simp [execOp,resolve,Deferred.ofValue,hev,dd])
 rw [hde] at e2
 refine ⟨.normal,{ a2 with defers:=[dd] },w1,?_,.of_steps (.head step_region (.head e1 (.one e2))) (.one step_region_end)⟩
 show Code.wp P rest _ _ w1
 refine wp_mono (hrest c2 rfl rfl ⟨_,rfl⟩ _ w1 ⟨A1,ρ1,hr3⟩) ?_
 rintro e a4 w4 ⟨s4,hq,A4,ρ4,hr4⟩
 have hdf:a4.defers=[dd]:=hr4.defers
 have hinv:∀ w,(invoke (.fn (.func g) #[.pointer (some ⟨b,0 * 0+0,none⟩)]) #[]).run P w=.ok (.enter g #[.pointer (some ⟨b,0 * 0+0,none⟩)]) w:=fun w=>by
   simp [invoke,run_callFunc hgf]
 have hk1:k≤s1.nx:=hr1.k0
 have good:(∃ x,p x∧Fin ti [] k (.tup []) (H' x) k' s4)→Leaves P fn a4.tmps (fun e w'=>∃ x v A' ρ',p x∧e=.returned v∧(AV.tup []).At w' A' ρ' v∧HeapAt w' A' ρ' (H' x)∧w'.os=w.os∧w'.tape=w.tape∧w'.output=w.output∧w.heap.size≤w'.heap.size ∧
     (∀ b,b < w.heap.size→¬ blkOf ρ H b→w'.heap[b]? = w.heap[b]?) ∧
     (∀ b,A' b→b < w'.heap.size∧(A b ∨ blkOf ρ H b ∨ w.heap.size≤b)) ∧
     (∀ y ∈ H' x,y.2.real→∀ b m,ρ' y.1=some (b,m)→blkOf ρ H b ∨ w.heap.size≤b) ∧
     (∀ h,h < k→ρ' h=ρ h)∧(∀ h,k'≤h→ρ' h=none)) [dd] .returning w4:=by
   rintro ⟨x,hp,hF⟩
   refine leaves_cons (by simp) (hinv w4) ((hgk w4 _ rfl).mono ?_)
   rintro e u' w5 ⟨⟨y,rfl⟩,rfl,hbel⟩
   obtain ⟨y,hy1,A',ρ',r1,r2,r3,r4,r5,r6,r7,r8,r9,r10,r11⟩:=fin_done hT hrs hkk hk1 (hr4.below hbel) hF
   exact ⟨y,hy1,x,y,A',ρ',hp,rfl,r1,r2,r3,r4,r5,r6,r7,r8,r9,fun h hh=>(r10 h hh).trans (hr1.old h hh),r11⟩
 cases e with
 | normal=>show Leaves P fn a4.tmps _ a4.defers .returning w4;rw [hdf];exact good hq
 | ret=>show Leaves P fn a4.tmps _ a4.defers .returning w4;rw [hdf];exact good hq
 | panic ch =>
   obtain ⟨rfl,hkx,hD⟩:=hq
   show Leaves P fn a4.tmps _ a4.defers (.panicking _) w4
   rw [hdf]
   refine leaves_cons (by simp) (hinv w4) ((hD w4 A4 ρ4 #[.pointer (some ⟨b,0 * 0+0,none⟩)] ⟨⟨b,m,(hr4.old hb hbx).trans hb1,rfl⟩,trivial⟩ hr4.heap (fun b hb=>(hr4.imm b hb).1) hr4.new).mono ?_)
   rintro e u' w5 ⟨x,y,A5,ρ5,hp,rfl,rfl,r1,r2,r3,r4,r5,r6,r7,r8,r9,r10⟩
   have hk2:s1.nx≤s4.nx:=hr4.k0
   have hbl:∀ b,blkOf ρ4 s4.h b→blkOf ρ H b ∨ w.heap.size≤b:=by
     rintro b ⟨x,hx,hxr,m,hk⟩
     exact hr4.own x hx hxr b m hk
   have hsz:w.heap.size≤w4.heap.size:=hr4.size
   refine ⟨.tuple #[],results_nil hrs _ _,x,.tuple #[],A5,ρ5,hp,rfl,⟨#[],rfl,trivial⟩,r1,r2.trans hr4.os,r3.trans hr4.tape,r4.trans hr4.output,Nat.le_trans hsz r5,?_,?_,?_,?_,r10⟩
   · intro b hb hn
     rw [r6 b (Nat.lt_of_lt_of_le hb hsz) (fun h=>by rcases hbl b h with h|h;exact hn h;omega)]
     exact hr4.frame b hb hn
   · intro b hb
     refine ⟨(r7 b hb).1,?_⟩
     rcases (r7 b hb).2 with h|h|h
     · exact (hr4.imm b h).2
     · exact .inr (hbl b h)
     · exact .inr (.inr (Nat.le_trans hsz h))
   · intro y hy hyr b m hk
     rcases r8 y hy hyr b m hk with h|h
     · exact hbl b h
     · exact .inr (Nat.le_trans hsz h)
   · intro h hh
     rw [r9 h (by omega)]
     exact (hr4.old h (by show h < s1.nx;omega)).trans (hr1.old h hh)
 | _=>exact hq.elim
end Go.Hw
namespace Go.Hw
def depOn (ops:List Oper) (i j:Nat):Bool:=match ops[i]? with
 | some o=>o.after.toList.any fun e=>Region.binds .any e && Nat.beq e.on j
 | none=>false
def giv (ops:List Oper) (k j:Nat):Bool:=match ops[j]? with
 | some o=>(match o.dst with
   | some d=>Nat.beq d k
   | none=>false)
 | none=>false
def okU1 (ops:List Oper) (us:List (List Nat)) (i:Nat):Bool :=
 (match ops[i]? with
   | some o=>o.guard.isNone && ((o.after.toList.all fun e=>!Region.binds .any e || Nat.blt e.on i) &&
       (match o.dst with
         | some d=>(List.range ops.length).all fun j=>Nat.beq i j || !giv ops d j
         | none=>true))
   | none=>false) && ((us.getD i []).all fun k=>(List.range ops.length).all fun j=>!giv ops k j || depOn ops i j)
def okU (ops:List Oper) (us:List (List Nat)) (eff:List Nat):Bool :=
 ((List.range ops.length).all fun i=>okU1 ops us i) && ((List.range eff.length).all fun m=>Nat.blt (eff.getD m 0) ops.length && (List.range m).all fun q=>depOn ops (eff.getD m 0) (eff.getD (m - 1) 0) && !Nat.beq (eff.getD m 0) (eff.getD q 0))
def okK1 (ops:List Oper) (l:Array Bool) (k:Nat):Bool:=(List.range ops.length).all fun j=>!giv ops k j || l.getD j false
def Tl (ops:List Oper) (l:Array Bool):List (Nat × AV)→List (Nat × AV)
 | []=>[]
 | (k,v) ::r=>bif okK1 ops l k then (k,v) ::Tl ops l r else Tl ops l r
theorem look_Tl {ops:List Oper} {l:Array Bool} {k:Nat}:∀ {F:List (Nat × AV)},look k (Tl ops l F)=bif okK1 ops l k then look k F else none
 | []=>by simp [Tl,look]
 | (j,v) ::r=>by
   cases hj:okK1 ops l j with
   | true =>
     simp only [Tl,hj,cond_true,look]
     cases e:Nat.beq j k with
     | true=>have e:=Nat.eq_of_beq_eq_true e;subst e;simp [hj]
     | false=>simp only [cond_false];exact look_Tl
   | false =>
     simp only [Tl,hj,cond_false,look]
     cases e:Nat.beq j k with
     | true=>have e:=Nat.eq_of_beq_eq_true e;subst e;rw [look_Tl];simp [hj]
     | false=>simp only [cond_false];exact look_Tl
def unl (l:Array Bool):Nat→Nat
 | 0=>0
 | k+1=>unl l k+bif l.getD k false then 0 else 1
theorem unl_zero {l:Array Bool}:∀ {n:Nat},unl l n=0→∀ i,i < n→l.getD i false=true
 | 0,_,i,h=>absurd h (Nat.not_lt_zero i)
 | n + 1,h,i,hi=>by
   simp only [unl] at h
   by_cases e:i=n
   · subst e
     cases hb:l.getD i false with
     | true=>rfl
     | false=>rw [hb] at h;simp at h
   · exact unl_zero (n:=n) (by omega) i (by omega)
theorem getD_set_f {l:Array Bool} {i j:Nat} (h:i < l.size):(l.setIfInBounds i true).getD j false=bif Nat.beq i j then true else l.getD j false:=by
 cases e:Nat.beq i j with
 | true=>have e:=Nat.eq_of_beq_eq_true e;subst e;simp [Array.getD_eq_getD_getElem?,Array.getElem?_setIfInBounds,h]
 | false =>
   have:i ≠ j:=fun e'=>by subst e';simp at e
   simp [Array.getD_eq_getD_getElem?,Array.getElem?_setIfInBounds,this]
theorem unl_set {l:Array Bool} {i:Nat} (h:i < l.size) (hf:l.getD i false=false):∀ {n:Nat},unl (l.setIfInBounds i true) n+(if i < n then 1 else 0)=unl l n
 | 0=>by simp [unl]
 | n + 1=>by
   have ih:=unl_set h hf (n:=n)
   simp only [unl]
   rw [getD_set_f h]
   cases e:Nat.beq i n with
   | true =>
     have e:=Nat.eq_of_beq_eq_true e;subst e
     rw [hf]
     simp only [Nat.lt_irrefl,if_false] at ih
     simp;omega
   | false =>
     have hne:i ≠ n:=fun e'=>by subst e';simp at e
     simp only [cond_false]
     by_cases h2:i < n
     · rw [if_pos h2] at ih;rw [if_pos (by omega)];omega
     · rw [if_neg h2] at ih;rw [if_neg (by omega)];omega
theorem Rep.weak {c:Ctx} {s:St} {a:Act} {w:World} {A:Nat→Prop} {ρ:Rho} (hr:Rep c s a w A ρ) {t':List (Nat × AV)} (h:∀ k v,look k t'=some v→look k s.t=some v):Rep c ⟨t',s.h,s.nx⟩ a w A ρ :=
 { heap:=hr.heap,tmps:=fun k v hk=>hr.tmps k v (h k v hk),nt:=hr.nt,defers:=hr.defers,os:=hr.os,tape:=hr.tape,output:=hr.output,size:=hr.size,frame:=hr.frame,own:=hr.own,imm:=hr.imm,old:=hr.old,new:=hr.new,k0:=hr.k0 }
theorem runR_one {P:Program} {ti:Nat→Option TI} (hT:TOk P ti) {c:Ctx} {ops:Array Oper} (hnt:∀ o ∈ ops.toList,∀ d,o.dst=some d→d < c.nt) {i:Nat} {o:Oper} (ho:ops[i]? = some o) (hg:o.guard=none) {s:St} {K:St→Prop} {a:Act} {w:World} {A:Nat→Prop} {ρ:Rho}
   (h:runR P ti ops.toList [o] s K) (hr:Rep c s a w A ρ) {N:Act→World→Prop} {Q:Exit→Act→World→Prop} (hN:∀ s' a' w',K s'→Abs c s' a' w'→N a' w'):wpOp P ops Q i N a w:=by
 have hmem:o ∈ ops.toList:=List.mem_of_getElem? (by simpa using ho)
 have hdc:∀ k,o.dst=some k→k < c.nt:=fun k hk=>hnt o hmem k hk
 have hb:wantA ops.toList s o.guard=some (true,true):=by simp [wantA,hg]
 rw [runR_cons,hb,runG_tt] at h
 unfold wpOp
 simp only [ho]
 rw [if_pos (by simp [Region.wanted,hg])]
 left
 unfold Oper.wp
 cases hc:callA ti s o.op with
 | some fl =>
   obtain ⟨fn,args⟩:=fl
   rw [hc,evR_call,runS] at h
   obtain ⟨hf,hcall⟩:=h
   obtain ⟨vs,h1,h2⟩:=callA_sound hT hr hc hf
   rw [h1,Oper.upon_enter]
   refine (hcall c a w A ρ vs hr h2).mono ?_
   rintro e w' ⟨y,v,h',nx,A',ρ',rfl,hK,hr',hv⟩
   rw [runR_nil] at hK
   exact hN _ _ _ hK ⟨A',ρ',hr'.put hdc hv⟩
 | none =>
   cases he:aop ti s o.op with
   | some r =>
     obtain ⟨p,v,h',nx⟩:=r
     rw [hc,he,evR_val,runS_val] at h
     obtain ⟨hp,hK⟩:=h
     rw [runR_nil] at hK
     obtain ⟨y,w',ρ',hran,hr',hv⟩:=aop_sound hT hr he hp
     have hnext:=hN _ _ _ hK ⟨A,ρ',hr'.put hdc hv⟩
     rcases hran with hran|⟨hran,rfl⟩
     · rw [hran,Oper.upon_value];exact hnext
     · rw [hran,Oper.upon_skip];exact hnext
   | none =>
     rw [hc,he] at h
     simp only [evR] at h
     rw [runS] at h;exact h.elim
def KeepT (T:List (Nat × AV)):Prop:=True
theorem keepT (T:List (Nat × AV)):KeepT T:=trivial
attribute [irreducible] KeepT
def agree (T F:List (Nat × AV)):List Nat→Prop
 | []=>KeepT T
 | k ::r=>look k T=look k F∧agree T F r
theorem agree_of {T F:List (Nat × AV)}:∀ {us:List Nat},(∀ k ∈ us,look k T=look k F)→agree T F us
 | [],_=>keepT T
 | k ::r,h=>⟨h k (by simp),agree_of fun k hk=>h k (by simp [hk])⟩
def goalS (dst:Option Nat) (F T:List (Nat × AV)) (y:Heap × Nat) (s':St):Prop:=match dst with
 | some d=>(match look d F with
   | some v=>s'=⟨(d,v) ::T,y.1,y.2⟩
   | none=>False)
 | none=>s'=⟨T,y.1,y.2⟩
def pureT (P:Program) (ti:Nat→Option TI) (ops:List Oper) (F:List (Nat × AV)) (o:Oper) (u:List Nat) (x y:Heap × Nat):Prop:=∀ T,agree T F u→runR P ti ops [o] ⟨T,x.1,x.2⟩ (goalS o.dst F T y)
def pureM (P:Program) (ti:Nat→Option TI) (ops:List Oper) (F:List (Nat × AV)) (o:Oper) (u:List Nat):List (Heap × Nat)→Prop
 | []=>True
 | x ::r=>pureT P ti ops F o u x x∧pureM P ti ops F o u r
def pureE (P:Program) (ti:Nat→Option TI) (ops:List Oper) (F:List (Nat × AV)) (o:Oper) (u:List Nat) (i:Nat) (Hs:List (Heap × Nat)):List Nat→List (Heap × Nat)→Prop
 | e ::er,x ::y ::r=>(bif Nat.beq e i then pureT P ti ops F o u x y else pureE P ti ops F o u i Hs er (y ::r))
 | _,_=>pureM P ti ops F o u Hs
def pureL (P:Program) (ti:Nat→Option TI) (ops:List Oper) (F:List (Nat × AV)) (eff:List Nat) (Hs Ds:List (Heap × Nat)):Nat→List Oper→List (List Nat)→Prop
 | i,o ::r,u ::us=>pureE P ti ops F o u i Ds eff Hs∧pureL P ti ops F eff Hs Ds (i+1) r us
 | _,o ::r,[]=>False
 | _,[],_=>True
section
variable {P:Program} {ti:Nat→Option TI} {ops:List Oper} {F:List (Nat × AV)}
theorem pureL_get {eff:List Nat} {Hs Ds:List (Heap × Nat)}:∀ {r:List Oper} {us:List (List Nat)} {n:Nat},pureL P ti ops F eff Hs Ds n r us→∀ {i:Nat} {o:Oper},r[i]? = some o→pureE P ti ops F o (us.getD i []) (n+i) Ds eff Hs
 | [],us,n,_,i,o,h=>by simp at h
 | x ::r,[],n,h,i,o,_=>h.elim
 | x ::r,u ::us,n,h,0,o,ho=>by simp at ho;subst ho;exact h.1
 | x ::r,u ::us,n,h,i+1,o,ho=>by
   have:=pureL_get h.2 (i:=i) (o:=o) (by simpa using ho)
   rw [show n+(i+1)=n+1+i by omega];simpa using this
theorem pureM_get {o:Oper} {u:List Nat}:∀ {Hs:List (Heap × Nat)},pureM P ti ops F o u Hs→∀ x ∈ Hs,pureT P ti ops F o u x x
 | [],_,x,hx=>by cases hx
 | y ::r,h,x,hx=>by
   rcases List.mem_cons.1 hx with hx|hx
   · rw [hx];exact h.1
   · exact pureM_get h.2 x hx
theorem pureE_eff {o:Oper} {u:List Nat} {Hs:List (Heap × Nat)}:∀ {eff:List Nat} {R:List (Heap × Nat)} {i:Nat},pureE P ti ops F o u i Hs eff R→R.length=eff.length+1→∀ m,eff[m]? = some i→(∀ q,q < m→eff[q]? ≠ some i)→pureT P ti ops F o u (R.getD m default) (R.getD (m+1) default)
 | [],R,i,_,_,m,h,_=>by simp at h
 | e ::er,[],i,_,hl,_,_,_=>by simp at hl
 | e ::er,[x],i,_,hl,_,_,_=>by simp at hl
 | e ::er,x ::y ::r,i,h,hl,0,hm,_=>by
   simp at hm;subst hm
   simpa [pureE] using h
 | e ::er,x ::y ::r,i,h,hl,m+1,hm,hq=>by
   have h0:=hq 0 (by omega)
   have hb:Nat.beq e i=false:=by
     cases hb:Nat.beq e i with
     | false=>rfl
     | true=>exact absurd (by simp [Nat.eq_of_beq_eq_true hb]) h0
   simp only [pureE,hb,cond_false] at h
   have:=pureE_eff h (by simpa using hl) m (by simpa using hm) (fun q hq'=>by have:=hq (q+1) (by omega);simpa using this)
   simpa using this
theorem pureE_not {o:Oper} {u:List Nat} {Hs:List (Heap × Nat)}:∀ {eff:List Nat} {R:List (Heap × Nat)} {i:Nat},pureE P ti ops F o u i Hs eff R→(∀ e ∈ eff,e ≠ i)→pureM P ti ops F o u Hs
 | [],R,i,h,_=>by cases R<;>simpa [pureE] using h
 | e ::er,[],i,h,_=>by simpa [pureE] using h
 | e ::er,[x],i,h,_=>by simpa [pureE] using h
 | e ::er,x ::y ::r,i,h,hn=>by
   have hb:Nat.beq e i=false:=by
     cases hb:Nat.beq e i with
     | false=>rfl
     | true=>exact absurd (Nat.eq_of_beq_eq_true hb) (hn e (by simp))
   simp only [pureE,hb,cond_false] at h
   exact pureE_not h fun e' he=>hn e' (by simp [he])
end
theorem dep_listed {ops:List Oper} {l:Array Bool} {i j:Nat} (hr:i ∈ Region.ready .any ⟨ops⟩ l) (hd:depOn ops i j=true):l.getD j false=true:=by
 rw [mem_ready] at hr
 obtain ⟨_,o,ho,hall⟩:=hr
 unfold depOn at hd
 have ho':ops[i]? = some o:=by simpa using ho
 rw [ho'] at hd
 dsimp only at hd
 obtain ⟨e,he,h1⟩:=List.any_eq_true.1 hd
 rw [Bool.and_eq_true] at h1
 have h2:=Nat.eq_of_beq_eq_true h1.2
 rw [← h2];exact hall e (Array.mem_toList_iff.1 he) h1.1
theorem okK1_iff {ops:List Oper} {l:Array Bool} {k:Nat}:okK1 ops l k=true ↔ ∀ j,j < ops.length→giv ops k j=true→l.getD j false=true:=by
 simp only [okK1,List.all_eq_true,List.mem_range,Bool.or_eq_true,Bool.not_eq_true']
 constructor
 · intro h j hj hg
   rcases h j hj with h|h
   · rw [hg] at h;cases h
   · exact h
 · intro h j hj
   cases hg:giv ops k j with
   | false=>exact .inl rfl
   | true=>exact .inr (h j hj hg)
def baseF (ops:List Oper) (t:List (Nat × AV)):List (Nat × AV)→Prop
 | []=>True
 | (k,v) ::r=>((List.range ops.length).any (giv ops k)=true ∨ look k t=some v)∧baseF ops t r
theorem baseF_mem {ops:List Oper} {t:List (Nat × AV)}:∀ {F:List (Nat × AV)},baseF ops t F→∀ {k:Nat} {v:AV},(k,v) ∈ F→(List.range ops.length).any (giv ops k)=true ∨ look k t=some v
 | [],_,k,v,h=>by cases h
 | (j,u) ::r,hb,k,v,h=>by
   rcases List.mem_cons.1 h with h|h
   · injection h with h1 h2;subst h1;subst h2;exact hb.1
   · exact baseF_mem hb.2 h
theorem AWp.pure {P:Program} {ti:Nat→Option TI} {c:Ctx} {Q:Exit→St→Prop} {s:St} (hT:TOk P ti) (hmix:P.follows .mixedOrders=true) {id:Nat} {ops:List Oper} (F:List (Nat × AV)) (Hs Ds:List (Heap × Nat)) (hDs:∀ x ∈ Hs,x ∈ Ds) (eff:List Nat) (us:List (List Nat))
   (hok:okU ops us eff=true) (hd:dstOk c.nt ops=true) (hl:Hs.length=eff.length+1) (h0:Hs.getD 0 default=(s.h,s.nx)) (hF:baseF ops s.t F) (hst:pureL P ti ops F eff Hs Ds 0 ops us)
   (hend:Q .normal ⟨F,(Hs.getD eff.length default).1,(Hs.getD eff.length default).2⟩):AWp P c (.region id ⟨ops⟩ true) Q s:=by
 rintro a w ⟨A,ρ,hr0⟩
 have hr:=hr0.drew
 simp only [okU,Bool.and_eq_true,List.all_eq_true,List.mem_range] at hok
 obtain ⟨hok1,hok2⟩:=hok
 have hnt:∀ o ∈ (⟨ops⟩:Array Oper).toList,∀ d,o.dst=some d→d < c.nt:=by
   intro o ho d hod
   simp only [dstOk,List.all_eq_true] at hd
   have:=hd o ho
   rw [hod] at this
   simpa using this
 have hone:∀ i o,ops[i]? = some o→o.guard=none∧(∀ e ∈ o.after,Region.binds .any e=true→e.on < i)∧(∀ d,o.dst=some d→∀ j,j < ops.length→giv ops d j=true→i=j)∧(∀ k ∈ us.getD i [],∀ j,j < ops.length→giv ops k j=true→depOn ops i j=true):=by
   intro i o ho
   have hlt:=(List.getElem?_eq_some_iff.1 ho).1
   have h:=hok1 i hlt
   simp only [okU1,ho,Bool.and_eq_true,List.all_eq_true,List.mem_range,Option.isNone_iff_eq_none] at h
   obtain ⟨⟨g1,g2,g3⟩,g4⟩:=h
   refine ⟨g1,fun e he hb=>?_,fun d hdd j hj hg=>?_,fun k hk j hj hg=>?_⟩
   · have:=g2 e (Array.mem_toList_iff.2 he)
     simp only [hb,Bool.not_true,Bool.false_or] at this
     simpa using this
   · rw [hdd] at g3
     simp only [List.all_eq_true,List.mem_range,Bool.or_eq_true,Bool.not_eq_true'] at g3
     rcases g3 j hj with h|h
     · exact Nat.eq_of_beq_eq_true h
     · rw [hg] at h;cases h
   · have:=g4 k hk j hj
     simp only [hg,Bool.not_true,Bool.false_or] at this
     exact this
 have heff:∀ m,m < eff.length→eff.getD m 0 < ops.length∧∀ q,q < m→depOn ops (eff.getD m 0) (eff.getD (m - 1) 0)=true∧eff.getD m 0 ≠ eff.getD q 0:=by
   intro m hm
   obtain ⟨g1,g2⟩:=hok2 m hm
   refine ⟨by simpa using g1,fun q hq=>?_⟩
   have:=g2 q hq
   simp only [Bool.not_eq_true'] at this
   refine ⟨this.1,fun e=>?_⟩
   rw [e] at this;simp at this
 have hdist:∀ m q,m < eff.length→q < eff.length→eff.getD m 0=eff.getD q 0→m=q:=by
   intro m q hm hq e
   rcases Nat.lt_trichotomy m q with h|h|h
   · exact absurd e.symm ((heff q hq).2 m h).2
   · exact h
   · exact absurd e ((heff m hm).2 q h).2
 have htf:∀ {l:Array Bool} {i:Nat},i < l.size→l.getD i true=l.getD i false:=fun {l i} h=>by simp [Array.getD_eq_getD_getElem?,h]
 let Inv:Array Bool→Act→World→Prop:=fun l a w=>∃ A ρ m,m≤eff.length∧Rep c ⟨Tl ops l F,(Hs.getD m default).1,(Hs.getD m default).2⟩ a w A ρ∧∀ q,q < eff.length→l.getD (eff.getD q 0) false=decide (q < m)
 have hfin :∀ l a w,l.size=ops.length→Region.ready .any ⟨ops⟩ l=[]→Inv l a w→∃ s',Q .normal s'∧Abs c s' a w:=by
   rintro l a w hsz hre ⟨A,ρ,m,hm,hrep,hq⟩
   have hall:∀ i,i < ops.length→l.getD i false=true:=by
     intro i
     induction i using Nat.strongRecOn with
     | _ i ih =>
       intro hi
       cases hb:l.getD i false with
       | true=>rfl
       | false =>
         obtain ⟨o,ho⟩:∃ o,ops[i]? = some o:=⟨_,List.getElem?_eq_getElem hi⟩
         have:i ∈ Region.ready .any ⟨ops⟩ l:=by
           rw [mem_ready]
           refine ⟨by rw [htf (by omega)];exact hb,o,by simpa using ho,fun e he hbd=>?_⟩
           have:=(hone i o ho).2.1 e he hbd
           exact ih e.on this (by omega)
         rw [hre] at this;cases this
   have hm':m=eff.length:=by
     rcases Nat.lt_or_ge m eff.length with h|h
     · have h1:=hq m h
       rw [hall _ (heff m h).1] at h1
       simp at h1
     · omega
   subst hm'
   refine ⟨_,hend,A,ρ,hrep.weak (t':=F) fun k v hk=>?_⟩
   show look k (Tl ops l F)=some v
   rw [look_Tl,okK1_iff.2 (fun j hj _=>hall j hj)];exact hk
 have key:∀ (fuel:Nat) (l:Array Bool) (a:Act) (w:World),l.size=ops.length→unl l ops.length≤fuel→Inv l a w→wpAny P .any ⟨ops⟩ (fun e a' w'=>∃ s',Q e s'∧Abs c s' a' w') fuel l a w:=by
   intro fuel
   induction fuel with
   | zero =>
     intro l a w hsz hu hi
     have hall:=unl_zero (l:=l) (n:=ops.length) (by omega)
     have hre:Region.ready .any ⟨ops⟩ l=[]:=by
       rw [List.eq_nil_iff_forall_not_mem]
       intro i hmem
       rw [mem_ready] at hmem
       obtain ⟨h1,o,ho,_⟩:=hmem
       have hlt:i < ops.length:=by simpa using (Array.getElem?_eq_some_iff.1 ho).1
       rw [htf (by omega),hall i hlt] at h1;cases h1
     exact ⟨hre,hfin l a w hsz hre hi⟩
   | succ fuel ih =>
     intro l a w hsz hu hi
     refine ⟨fun hre=>hfin l a w hsz hre hi,fun i hmem=>?_⟩
     obtain ⟨A,ρ,m,hm,hrep,hq⟩:=hi
     have hmem':=hmem
     rw [mem_ready] at hmem'
     obtain ⟨h1,o,ho,_⟩:=hmem'
     have ho':ops[i]? = some o:=by simpa using ho
     have hlt:=(List.getElem?_eq_some_iff.1 ho').1
     have hfl:l.getD i false=false:=by rw [← htf (by omega)];exact h1
     obtain ⟨hg,_,hdu,hus⟩:=hone i o ho'
     have hag:agree (Tl ops l F) F (us.getD i []):=agree_of fun k hk=>by
       rw [look_Tl,okK1_iff.2 (fun j hj hgv=>dep_listed hmem (hus k hk j hj hgv))];rfl
     have hpe:=pureL_get hst ho'
     rw [Nat.zero_add] at hpe
     have hset:∀ j,(l.setIfInBounds i true).getD j false=bif Nat.beq i j then true else l.getD j false:=fun j=>getD_set_f (by omega)
     have hun:unl (l.setIfInBounds i true) ops.length≤fuel:=by
       have:=unl_set (l:=l) (i:=i) (by omega) hfl (n:=ops.length)
       rw [if_pos hlt] at this;omega
     -- what comes next
     have fin:∀ m',m'≤eff.length→(∀ q,q < eff.length→(l.setIfInBounds i true).getD (eff.getD q 0) false=decide (q < m'))→pureT P ti ops F o (us.getD i []) (Hs.getD m default) (Hs.getD m' default) →
         wpOp P ⟨ops⟩ (fun e a' w'=>∃ s',Q e s'∧Abs c s' a' w') i (wpAny P .any ⟨ops⟩ (fun e a' w'=>∃ s',Q e s'∧Abs c s' a' w') fuel (l.setIfInBounds i true)) a w:=by
       intro m' hm' hq' hp
       refine runR_one hT hnt ho hg (hp _ hag) hrep fun s' a' w' hK ⟨A',ρ',hr'⟩=>?_
       refine ih _ _ _ (by simpa using hsz) hun ⟨A',ρ',m',hm',?_,hq'⟩
       have hkk:∀ k,okK1 ops (l.setIfInBounds i true) k=true→giv ops k i=false→okK1 ops l k=true:=by
         intro k h2 h3
         refine okK1_iff.2 fun j hj hgv=>?_
         have h4:=okK1_iff.1 h2 j hj hgv
         rw [hset] at h4
         cases e:Nat.beq i j with
         | true =>
           have e:=Nat.eq_of_beq_eq_true e;subst e
           rw [h3] at hgv;cases hgv
         | false=>rw [e] at h4;exact h4
       unfold goalS at hK
       cases hdst:o.dst with
       | none =>
         rw [hdst] at hK
         dsimp only at hK
         subst hK
         refine hr'.weak (t':=Tl ops (l.setIfInBounds i true) F) fun k u hk=>?_
         show look k (Tl ops l F)=some u
         rw [look_Tl] at hk ⊢
         cases h2:okK1 ops (l.setIfInBounds i true) k with
         | false=>rw [h2] at hk;cases hk
         | true=>rw [h2] at hk;rw [hkk k h2 (by simp [giv,ho',hdst])];exact hk
       | some d =>
         rw [hdst] at hK
         dsimp only at hK
         cases hv:look d F with
         | none=>rw [hv] at hK;exact hK.elim
         | some v =>
           rw [hv] at hK
           dsimp only at hK
           subst hK
           refine hr'.weak (t':=Tl ops (l.setIfInBounds i true) F) fun k u hk=>?_
           show look k ((d,v) ::Tl ops l F)=some u
           rw [look_Tl] at hk
           cases h2:okK1 ops (l.setIfInBounds i true) k with
           | false=>rw [h2] at hk;cases hk
           | true =>
             rw [h2] at hk
             simp only [cond_true] at hk
             simp only [look]
             cases e:Nat.beq d k with
             | true =>
               have e:=Nat.eq_of_beq_eq_true e;subst e
               rw [hv] at hk;exact hk
             | false =>
               simp only [cond_false]
               rw [look_Tl,hkk k h2 (by simp only [giv,ho',hdst];exact e)];exact hk
     by_cases hin:∃ q,q < eff.length∧eff.getD q 0=i
     · obtain ⟨q,hql,hqe⟩:=hin
       have h2:=hq q hql
       rw [hqe,hfl] at h2
       have h3:¬ q < m:=by simpa using h2.symm
       have h4:q≤m:=by
         rcases Nat.eq_zero_or_pos q with h|h
         · omega
         · have hdep:=((heff q hql).2 0 h).1
           rw [hqe] at hdep
           have h5:=dep_listed hmem hdep
           rw [hq (q - 1) (by omega)] at h5
           have:=of_decide_eq_true h5
           omega
       have hqm:q=m:=by omega
       subst hqm
       have he':eff[q]? = some i:=by
         rw [List.getElem?_eq_getElem hql]
         simp only [List.getD,List.getElem?_eq_getElem hql,Option.getD_some] at hqe
         rw [hqe]
       refine fin (q+1) (by omega) (fun q' hq'=>?_) (pureE_eff hpe hl q he' (fun q' hq' h=>?_))
       · rw [hset]
         by_cases e:q'=q
         · subst e;rw [hqe];simp
         · have hne:i ≠ eff.getD q' 0:=fun h=>e (hdist q' q hq' hql (by rw [hqe];exact h.symm))
           have hb:Nat.beq i (eff.getD q' 0)=false:=by
             cases hb:Nat.beq i (eff.getD q' 0) with
             | false=>rfl
             | true=>exact absurd (Nat.eq_of_beq_eq_true hb) hne
           rw [hb]
           simp only [cond_false]
           rw [hq q' hq']
           by_cases h:q' < q
           · simp [h];omega
           · simp [h];omega
       · have:eff.getD q' 0=eff.getD q 0:=by
           simp only [List.getD,h,he']
         exact absurd (hdist q' q (by omega) hql this) (by omega)
     · have hnot:∀ e ∈ eff,e ≠ i:=by
         intro e he hei
         obtain ⟨q,hq1,hq2⟩:=List.getElem_of_mem he
         exact hin ⟨q,hq1,by simp [List.getD,hq1,hq2,hei]⟩
       refine fin m hm (fun q' hq'=>?_) (pureM_get (pureE_not hpe hnot) _ ?_)
       · rw [hset]
         have hb:Nat.beq i (eff.getD q' 0)=false:=by
           cases hb:Nat.beq i (eff.getD q' 0) with
           | false=>rfl
           | true=>exact absurd ⟨q',hq',(Nat.eq_of_beq_eq_true hb).symm⟩ hin
         rw [hb]
         exact hq q' hq'
       · have:m < Hs.length:=by omega
         simp only [List.getD,List.getElem?_eq_getElem this,Option.getD_some]
         exact hDs _ (List.getElem_mem this)
 refine wp_region_any hmix ?_
 show wpAny P .any ⟨ops⟩ _ ops.length (Array.replicate ops.length false) a _
 refine key _ _ a _ (by simp) ?_ ?_
 · have:∀ n,unl (Array.replicate ops.length false) n≤n:=by
     intro n
     induction n with
     | zero=>exact Nat.le_refl _
     | succ n ih =>
       simp only [unl]
       cases (Array.replicate ops.length false).getD n false<;>simp<;>omega
   exact this _
 · have hrf:∀ j,(Array.replicate ops.length false).getD j false=false:=by
     intro j
     simp only [Array.getD_eq_getD_getElem?,Array.getElem?_replicate]
     split<;>rfl
   refine ⟨A,ρ,0,Nat.zero_le _,?_,fun q _=>by rw [hrf];simp⟩
   rw [h0]
   refine Rep.weak hr fun k v hk=>?_
   rw [look_Tl] at hk
   cases h2:okK1 ops (Array.replicate ops.length false) k with
   | false=>rw [h2] at hk;cases hk
   | true =>
     rw [h2] at hk
     rcases baseF_mem hF (look_mem hk) with h3|h3
     · obtain ⟨j,hj,hg⟩:=List.any_eq_true.1 h3
       have:=okK1_iff.1 h2 j (List.mem_range.1 hj) hg
       rw [hrf] at this;cases this
     · exact h3
def okF (ops:List Oper) (F:List (Nat × AV)) (keep:List Nat):Bool:=(F.all fun x=>(List.range ops.length).any (giv ops x.1)) && keep.all fun k=>(List.range ops.length).all fun j=>!giv ops k j
theorem baseF_app {ops:List Oper} {t F G:List (Nat × AV)} (h1:∀ x ∈ F,(List.range ops.length).any (giv ops x.1)=true) (h2:∀ k v,(k,v) ∈ G→look k t=some v):baseF ops t (F++G):=by
 induction F with
 | nil =>
   simp only [List.nil_append]
   induction G with
   | nil=>trivial
   | cons x r ih=>exact ⟨.inr (h2 x.1 x.2 (by simp)),ih fun k v h=>h2 k v (by simp [h])⟩
 | cons x r ih=>exact ⟨.inl (h1 x (by simp)),ih fun y hy=>h1 y (by simp [hy])⟩
theorem keepL_mem {t:List (Nat × AV)}:∀ {l:List Nat} {k:Nat} {v:AV},(k,v) ∈ keepL t l→look k t=some v
 | [],k,v,h=>by simp [keepL] at h
 | j ::r,k,v,h=>by
   simp only [keepL] at h
   split at h
   · rename_i u hu
     rcases List.mem_cons.1 h with h|h
     · injection h with h1 h2;subst h1;subst h2;exact hu
     · exact keepL_mem h
   · exact keepL_mem h
theorem AWp.pureK {P:Program} {ti:Nat→Option TI} {c:Ctx} {Q:Exit→St→Prop} {s:St} (hT:TOk P ti) (hmix:P.follows .mixedOrders=true) {id:Nat} {ops:List Oper} (F:List (Nat × AV)) (keep:List Nat) (Ds:List (Heap × Nat)) (hm:List Nat) (eff:List Nat) (us:List (List Nat)) (hE:Heap) (nE:Nat)
   (hok:okU ops us eff=true) (hd:dstOk c.nt ops=true) (hl:(hm.length == eff.length+1 && hm.all fun k=>Nat.blt k Ds.length)=true) (h0:(hm.map fun k=>Ds.getD k default).getD 0 default=(s.h,s.nx)) (he:(hm.map fun k=>Ds.getD k default).getD eff.length default=(hE,nE)) (hF:okF ops F keep=true)
   (hst:pureL P ti ops (F++keepL s.t keep) eff (hm.map fun k=>Ds.getD k default) Ds 0 ops us)
   (hend:Q .normal ⟨F++keepL s.t keep,hE,nE⟩):AWp P c (.region id ⟨ops⟩ true) Q s:=by
 simp only [okF,Bool.and_eq_true,List.all_eq_true] at hF
 simp only [Bool.and_eq_true,beq_iff_eq,List.all_eq_true] at hl
 refine AWp.pure hT hmix _ (hm.map fun k=>Ds.getD k default) Ds (fun x hx=>?_) eff us hok hd (by simpa using hl.1) h0 (baseF_app hF.1 fun k v h=>keepL_mem h) hst ?_
 · obtain ⟨k,hk,rfl⟩:=List.mem_map.1 hx
   have h1:k < Ds.length:=by simpa using hl.2 k hk
   simp only [List.getD,List.getElem?_eq_getElem h1,Option.getD_some]
   exact List.getElem_mem h1
 · rw [he];exact hend
end Go.Hw
