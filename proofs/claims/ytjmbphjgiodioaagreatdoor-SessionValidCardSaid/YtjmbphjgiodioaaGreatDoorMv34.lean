/- Several texts, one behind the other. Conditions: as each of them says. -/
import Derived.Test.YtjmbphjgiodioaaGreatDoorMv24
import Derived.Deep.Upon
import Derived.Lib.AppendZerosOnto
import Derived.RangeFuncNested
import Derived.OrdersIn
import Derived.CheckFast
set_option maxRecDepth 100000
set_option maxHeartbeats 32000000
set_option linter.all false
namespace Go.Ev
open Classical
section
variable {G:Program} {φ:Phi} {e:TE} {nx:P} {w:World} {t:TV} {ρ:Operand→Value} {o:Oper}
theorem sep_obj (h:Rel φ e nx w) {p:P} {l:Loc} (hp:φ p=some l) (hno:∀b,¬At e p b) {q:P} {k:Loc} (hq:φ q=some k) (hne:q≠p):k.B≠l.B:=fun hB=>by
 rcases h.sep q p k l hq hp hB with h1|⟨_,c,_,hc,_⟩
 ·exact hne h1
 exact hno c hc
theorem obj_rel (h:Rel φ e nx w) {p:P} {l:Loc} {x:Ent} {ob:Obj} (hp:φ p=some l) (hno:∀b,¬At e p b) (hx:∀f g s m n c,x≠.bk f g s m n c)
    (hmap:∀es ck,x= .mp es ck→l.d=0∧∃E,ob= .map E ck∧mr φ es E.toList)
    (hloop:∀st pe t ps as bd,x= .lp st pe t ps as bd→l.d=0∧∃r,ob= .loop r∧r.state=st∧r.pending=pe∧TR φ t r.tmps∧r.params.toList.map toS=ps∧r.assign=as∧r.body=bd):
    Rel φ (putE p e x) nx (w.putObj l.B ob):=by
 have hlt:=h.lt p l hp
 have hsame:∀q,q≠p→gE q (putE p e x)=gE q e:=fun q hq=>gE_put_other _ _ _ _ (Ne.symm hq)
 have hat:∀q b,At (putE p e x) q b→q≠p∧At e q b:=fun q b hb=>by
  by_cases hq:q=p
  ·subst hq;rw [At,gE_put_same] at hb;exact absurd hb (hx _ _ _ _ _ _)
  exact ⟨hq,by rw [At,hsame q hq] at hb;exact hb⟩
 have hat':∀q b,At e q b→At (putE p e x) q b:=fun q b hb=>by
  have hq:q≠p:=fun hh=>by subst hh;exact hno b hb
  rw [At,hsame q hq];exact hb
 have hok:∀b,OkE (putE p e x) b→OkE e b:=fun b hb=>hb.imp id fun ⟨r,h1,h2⟩=>⟨r,(hat _ _ h1).2,h2⟩
 have hok':∀b,OkE e b→OkE (putE p e x) b:=fun b hb=>hb.imp id fun ⟨r,h1,h2⟩=>⟨r,hat' _ _ h1,h2⟩
 have hheap:∀q k,φ q=some k→q≠p→(w.putObj l.B ob).heap[k.B]? =w.heap[k.B]? :=fun q k hq hne=>World.putObj_heap_other (sep_obj h hp hno hq hne)
 have hsz:(w.putObj l.B ob).heap.size=w.heap.size:=by simp [World.putObj]
 refine ⟨fun q k hq=> ?_,fun q hq=> ?_,fun q k b hq hb=> ?_,fun q k es ck hq hb=> ?_,fun q k st pe t ps as bd hq hb=> ?_,fun q b hb=> ?_,fun q r b c hb hc=> ?_,fun q r lq lr hq hr hB=> ?_,fun q r lq lr b c hq hr hB hne hb hc=> ?_,fun q b hb=> ?_,fun q b hb=> ?_,fun q r lq lr b c hq hr hB hne hb hc h1 h2 h3=> ?_⟩
 ·rw [hsz];exact h.lt q k hq
 ·rw [hsame q fun hh=>by subst hh;have:=hlt.1;omega];exact h.new q hq
 ·obtain ⟨hne,hb⟩:=hat q b hb
  obtain ⟨e1,e2,e3⟩:=h.blk q k b hq hb
  refine ⟨there_congr (hheap q k hq hne) e1,e2,fun ho=> ?_⟩
  obtain ⟨vs,f1,f2,f3,f4⟩:=e3 (hok b ho)
  exact ⟨vs,f1,f2,f3,range_congr (hheap q k hq hne) f4⟩
 ·by_cases hne:q=p
  ·subst hne
   rw [gE_put_same] at hb
   have:k=l:=Option.some.inj (hq.symm.trans hp)
   subst this
   obtain ⟨h0,E,rfl,h1⟩:=hmap es ck hb
   exact ⟨h0,E,World.putObj_heap_same hlt.2,h1⟩
  rw [hsame q hne] at hb
  obtain ⟨h0,E,h1,h2⟩:=h.map q k es ck hq hb
  exact ⟨h0,E,(hheap q k hq hne).trans h1,h2⟩
 ·by_cases hne:q=p
  ·subst hne
   rw [gE_put_same] at hb
   have:k=l:=Option.some.inj (hq.symm.trans hp)
   subst this
   obtain ⟨h0,r,rfl,h1⟩:=hloop st pe t ps as bd hb
   exact ⟨h0,r,World.putObj_heap_same hlt.2,h1⟩
  rw [hsame q hne] at hb
  obtain ⟨h0,r,h1,h2⟩:=h.loop q k st pe t ps as bd hq hb
  exact ⟨h0,r,(hheap q k hq hne).trans h1,h2⟩
 ·obtain ⟨r,h1,h2⟩:=h.root q b (hat q b hb).2;exact ⟨r,hat' _ _ h1,h2⟩
 ·exact h.one q r b c (hat _ _ hb).2 (hat _ _ hc).2
 ·rcases h.sep q r lq lr hq hr hB with h1|⟨b,c,h1,h2,h3⟩
  ·exact .inl h1
  exact .inr ⟨b,c,hat' _ _ h1,hat' _ _ h2,h3⟩
 ·exact h.ord q r lq lr b c hq hr hB hne (hat _ _ hb).2 (hat _ _ hc).2
 ·exact h.mm q b (hat q b hb).2
 ·exact h.rm q b (hat q b hb).2
 exact h.mu q r lq lr b c hq hr hB hne (hat _ _ hb).2 (hat _ _ hc).2 h1 h2 (hok c h3)
theorem Stp.obj {φ0:Phi} {e0:TE} {nx0:P} {w0:World} (s:Stp φ0 e0 nx0 w0 φ e nx w) {p:P} {l:Loc} {x:Ent} {ob:Obj} (hp:φ p=some l) (hno:∀b,¬At e p b) (hx:∀f g s m n c,x≠.bk f g s m n c)
    (hmap:∀es ck,x= .mp es ck→l.d=0∧∃E,ob= .map E ck∧mr φ es E.toList)
    (hloop:∀st pe t ps as bd,x= .lp st pe t ps as bd→l.d=0∧∃r,ob= .loop r∧r.state=st∧r.pending=pe∧TR φ t r.tmps∧r.params.toList.map toS=ps∧r.assign=as∧r.body=bd)
    (hb:∀pe t ps as bd,gE p e0≠.lp .busy pe t ps as bd):
    Stp φ0 e0 nx0 w0 φ (putE p e x) nx (w.putObj l.B ob):=by
 refine ⟨obj_rel s.rel hp hno hx hmap hloop,s.gr,s.ext,s.img,fun q hq hn=> ?_,⟨s.fr.os,s.fr.tape,s.fr.output,by rw [World.putObj_size];exact s.fr.size,fun k hk hn=> ?_⟩,fun q pe t ps as bd hq=> ?_⟩
 ·rw [gE_put_other _ _ _ _ fun hh=>by subst hh;rw [←s.ext p hq,hp] at hn;cases hn]
  exact s.ghost q hq hn
 ·rw [World.putObj_heap_other (fun hh => by
    rcases s.img p l hp with h1|⟨r,j,h1,h2⟩
    ·omega
    exact hn r j h1 (h2.trans hh.symm))]
  exact s.fr.block k hk hn
 rw [gE_put_other _ _ _ _ fun hh=>by subst hh;exact hb _ _ _ _ _ hq]
 exact s.busy q pe t ps as bd hq
theorem obj_stp (h:Rel φ e nx w) {p:P} {l:Loc} {x:Ent} {ob:Obj} (hp:φ p=some l) (hno:∀b,¬At e p b) (hx:∀f g s m n c,x≠.bk f g s m n c)
    (hmap:∀es ck,x= .mp es ck→l.d=0∧∃E,ob= .map E ck∧mr φ es E.toList)
    (hloop:∀st pe t ps as bd,x= .lp st pe t ps as bd→l.d=0∧∃r,ob= .loop r∧r.state=st∧r.pending=pe∧TR φ t r.tmps∧r.params.toList.map toS=ps∧r.assign=as∧r.body=bd)
    (hb:∀pe t ps as bd,gE p e≠.lp .busy pe t ps as bd):
    Stp φ e nx w φ (putE p e x) nx (w.putObj l.B ob):=(Stp.refl h).obj hp hno hx hmap hloop hb
theorem g_sr {ty:TypeId} {a x:Operand} (h:Rel φ e nx w) (ha:OD φ t ρ a) (hx:OD φ t ρ x) (hin:inT G ty=true) (ho:o.op= .store ty a x) (hok:(evX (.sr (G.cellsOf ty) (cOd a) (cOd x)) t (.mk e nx)).ok):Good G φ e nx w ((execOp ρ o).run G w) (evX (.sr (G.cellsOf ty) (cOd a) (cOd x)) t (.mk e nx)):=by
 obtain ⟨b,q,e1,e2⟩:=onP_ok (show (onP (evO (cOd a) t) fun b o=>bR (Nat.beq (lenA (cellsA (evO (cOd x) t))) (G.cellsOf ty)) (wrK b o (cellsA (evO (cOd x) t)) (.mk e nx) fun h=> .v undefA h) (.bad 72))=evX (.sr (G.cellsOf ty) (cOd a) (cOd x)) t (.mk e nx) from rfl) hok
 obtain ⟨e3,e4⟩:=bR_ok e2 hok
 rw [OD,e1] at ha
 obtain ⟨l,hl,ha'⟩:=ha
 rcases vr_cells hx with h5|⟨h5,h6⟩
 ·exfalso
  rw [h5] at e4
  obtain ⟨f,g,s,m,n,c,_,e5⟩:=onK_ok e4 hok
  cases s with
  |succ s=>rw [←e5] at hok;exact hok
  |zero=>
   have e6:(putA c q .fz fun c=>bR m (setE b (.bk f g 0 false n c) (.mk e nx) fun h=>onK (gE f (hE h)) fun f1 g1 s1 m1 n1 c1=>fN (Nat.succ g1) fun g2=>setE f (.bk f1 g2 s1 m1 n1 c1) h fun h=>R.v undefA h) (setE b (.bk f g 0 m n c) (.mk e nx) fun h=> .v undefA h))=evX (.sr (G.cellsOf ty) (cOd a) (cOd x)) t (.mk e nx):=e5
   rw [←e6] at hok
   exact put_fz hok
 obtain ⟨e',f1,f2,f3,_⟩:=wr_ok h rfl hl h5 h6 e4 hok
 rw [←f1]
 have hlen:(ρ x).cells.toList.length=G.cellsOf ty:=by have:=Nat.eq_of_beq_eq_true e3;rw [lr_len h5] at this;exact this
 have hlen':(ρ x).cells.size=G.cellsOf ty:=by simpa using hlen
 have hst:=run_storeCells_cells (P:=G) l.B (l.d+q) (ρ x).cells.toList 0 w (fun j hj=>by simpa using (f3 j hj).1) (fun j hj=>by simpa using (f3 j hj).2) h6
 simp only [Nat.add_zero] at hst
 refine ⟨φ,undef,_,f2,⟨#[],rfl,rfl⟩,.inr ⟨rfl,?_⟩⟩
 simp [execOp,ho,ha',Instr.storeAt,Instr.sureAddr,storeVar,run_sizeOf' hin,hlen',hst]
theorem g_mu {ty j el:TypeId} {m k x:Operand} {kd:KD} (h:Rel φ e nx w) (hm:OD φ t ρ m) (hk:OD φ t ρ k) (hx:OD φ t ρ x) (hu:G.underlying ty=some (.map j el)) (hkd:keyT G j=some kd) (ho:o.op= .mapUpdate ty m k x∨o.op= .insert ty m k x) (hok:(evX (.mu kd (cOd m) (cOd k) (cOd x)) t (.mk e nx)).ok):
    Good G φ e nx w ((execOp ρ o).run G w) (evX (.mu kd (cOd m) (cOd k) (cOd x)) t (.mk e nx)):=by
 obtain ⟨hkp,e1⟩:=ky_ok hkd hk (show kyA kd (evO (cOd k) t) _=evX (.mu kd (cOd m) (cOd k) (cOd x)) t (.mk e nx) from rfl) hok
 obtain ⟨p,e2,e3⟩:=onM_ok e1 hok
 obtain ⟨es,ck,e4,e5⟩:=onMp_ok e3 hok
 rw [fV_eq,fV_eq] at e5
 have e4':gE p e= .mp es ck:=e4
 rw [OD,e2] at hm
 obtain ⟨l,hl,hm'⟩:=hm
 obtain ⟨hd0,E,hE,hmr⟩:=h.map p l es ck hl e4'
 have chk:=hkp.check false w
 have hno:∀b,¬At e p b:=fun b hb=>by rw [At,e4'] at hb;cases hb
 have hexec:∀r w',(Instr.mapUpdate ty (.map (some l.B)) (ρ k) (ρ x)).run G w= .ok r w'→(execOp ρ o).run G w= .ok .skip w':=fun r w' hr=>by rcases ho with ho|ho<;>simp [execOp,ho,hm',hr]
 rcases hkp.put hx hmr e5 hok w with ⟨i,v,en,es',f1,f2,f3,f4,f5⟩|⟨es',f1,f2,f3⟩
 ·rw [setE_eq] at f5
  rw [←f5]
  have hst:=obj_stp h (x:= .mp es' ck) (ob:= .map (E.modify i fun en=>{en with key:=ρ k,val:=ρ x}) ck) hl hno (fun _ _ _ _ _ _=>by simp) (fun es ck hh=>by
   simp only [Ent.mp.injEq] at hh
   obtain ⟨rfl,rfl⟩:=hh
   exact ⟨hd0,_,rfl,by simpa using f4⟩) (fun _ _ _ _ _ _ hh=>by cases hh) (fun _ _ _ _ _ hh=>by rw [e4'] at hh;cases hh)
  have hEi:E[i]? =some en:=by simpa using f2
  have hsty:=hkp.stays w
  refine ⟨φ,undef,_,hst,⟨#[],rfl,rfl⟩,.inr ⟨rfl,hexec () _ ?_⟩⟩
  simp [Instr.mapUpdate,run_underlying hu,run_getObj_map _ _ _ _ hE,chk,f1,hEi,f3,hsty,setObj,Sem.run,hE,World.putObj]
 rw [setE_eq] at f3
 rw [←f3]
 have hst:=obj_stp h (x:= .mp es' (ck+1)) (ob:= .map (E.push {key:=ρ k,val:=ρ x,born:=ck}) (ck+1)) hl hno (fun _ _ _ _ _ _=>by simp) (fun es ck hh=>by
  simp only [Ent.mp.injEq] at hh
  obtain ⟨rfl,rfl⟩:=hh
  exact ⟨hd0,_,rfl,by simpa using f2⟩) (fun _ _ _ _ _ _ hh=>by cases hh) (fun _ _ _ _ _ hh=>by rw [e4'] at hh;cases hh)
 refine ⟨φ,undef,_,hst,⟨#[],rfl,rfl⟩,.inr ⟨rfl,hexec () _ ?_⟩⟩
 simp [Instr.mapUpdate,run_underlying hu,run_getObj_map _ _ _ _ hE,chk,f1,setObj,Sem.run,hE,World.putObj]
theorem by_ok:∀(s:List Nat) (K:AV→R),∃y,lr φ y (s.map fun (n:Nat)=>Value.int .u8 (n:Int))∧byA s K=K y
 |[],_=>⟨.ln,rfl,rfl⟩
 |n::s,K=>by
  obtain ⟨y,h1,h2⟩:=by_ok s fun r=>K (.lc (.it .u8 (.ofNat n)) r)
  exact ⟨.lc (.it .u8 (.ofNat n)) y,⟨_,_,rfl,rfl,h1⟩,h2⟩
theorem first_ok (h:Rel φ e nx w) {z n:Nat} {a:AV} {v:Value} {K:AV→R} {r:R} (hv:vr φ a v) (hn:∀base m c,v= .slice base m c→n≤m) (hr:firstK z a n (.mk e nx) K=r) (hok:r.ok):
    ∃y us,lr φ y us∧One us∧us.length=n*z∧(Builtin.firstCells z n v).run G w= .ok us.toArray w∧(Builtin.firstCells z n v).run G w.drew= .ok us.toArray w.drew∧K y=r:=by
 cases a with
 |sl b q m c=>
  obtain ⟨l,hl,rfl⟩:=hv
  obtain ⟨y,us,a1,a2,a3,a4,a5⟩:=first_sl h hl hr hok
  exact ⟨y,us,a1,a2,a3,run_firstCells_some w z n _ m c us a3 (fun j v hj=>by rw [add_mid];exact a4 j v hj),run_firstCells_some w.drew z n _ m c us a3 (fun j v hj=>by rw [add_mid];have:=(World.rangeAt_drew w _ _ _).2 a4 j v hj;exact this),a5⟩
 |su b q m zz=>
  obtain ⟨l,c,hl,_,_,_,rfl⟩:=hv
  obtain ⟨y,us,a1,a2,a3,a4,a5⟩:=first_sl h hl hr hok
  exact ⟨y,us,a1,a2,a3,run_firstCells_some w z n _ m c us a3 (fun j v hj=>by rw [add_mid];exact a4 j v hj),run_firstCells_some w.drew z n _ m c us a3 (fun j v hj=>by rw [add_mid];have:=(World.rangeAt_drew w _ _ _).2 a4 j v hj;exact this),a5⟩
 |sn=>
  have hv':v=_:=hv
  subst hv'
  have:n=0:=by have:=hn _ _ _ rfl;omega
  subst this
  exact ⟨.ln,[],rfl,one_nil,by simp,run_firstCells_none w _ _ _ _,run_firstCells_none w.drew _ _ _ _,hr⟩
 |se=>
  obtain ⟨ad,c,rfl⟩:=hv
  have:n=0:=by have:=hn _ _ _ rfl;omega
  subst this
  exact ⟨.ln,[],rfl,one_nil,by simp,run_firstCells_some w z 0 _ 0 c [] (by simp) (fun j v hj=>by simp at hj),run_firstCells_some w.drew z 0 _ 0 c [] (by simp) (fun j v hj=>by simp at hj),hr⟩
 |st s=>
  obtain ⟨hs,rfl⟩:=hv
  obtain ⟨e1,e2⟩:=bR_ok (show bR (Nat.beq z 1) (takeS s n fun s=>byA s K) (.bad 42)=r from hr) hok
  have hz:z=1:=Nat.eq_of_beq_eq_true e1
  subst hz
  obtain ⟨e3,e4⟩:=takeS_ok e2 hok
  obtain ⟨y,e5,e6⟩:=by_ok (φ:=φ) (s.take n) K
  have hfc:∀w',(Builtin.firstCells 1 n (.string (bytesOf s))).run G w'= .ok ((s.take n).map fun (n:Nat)=>Value.int .u8 (n:Int)).toArray w':=fun w'=>by
   have e7:=ext_bytesOf s 0 n
   simp only [Builtin.firstCells,Sem.run_pure,e7,List.drop_zero]
   congr 1
   apply Array.ext'
   simp only [Array.toList_map,data_bytesOf,List.map_map]
   apply List.map_congr_left
   intro x hx
   have:=toNat_ofNat (hs x (List.mem_of_mem_take hx))
   simp only [Function.comp,this]
  exact ⟨y,_,e5,fun v hv=>by obtain ⟨_,_,rfl⟩:=List.mem_map.1 hv;rfl,by simp;omega,hfc w,hfc w.drew,e6.symm.trans e4 |>fun hh=>by rw [←e6];exact e4⟩
 |_=>subst hr;exact False.elim hok
theorem sx_ok {a:AV} {v:Value} {K:Nat→R} {r:R} (hv:vr φ a v) (hr:onSx a K=r) (hok:r.ok):∃n,K n=r∧(∀w:World,(Builtin.lenOf v).run G w= .ok n w)∧∀base m c,v= .slice base m c→n=m:=by
 cases a with
 |sl b q m c=>obtain ⟨l,hl,rfl⟩:=hv;exact ⟨m,hr,fun _=>rfl,fun _ _ _ hh=>by injection hh⟩
 |su b q m z=>obtain ⟨l,c,hl,_,_,_,rfl⟩:=hv;exact ⟨m,hr,fun _=>rfl,fun _ _ _ hh=>by injection hh⟩
 |sn=>have hv':v=_:=hv;subst hv';exact ⟨0,hr,fun _=>rfl,fun _ _ _ hh=>by injection hh⟩
 |se=>obtain ⟨ad,c,rfl⟩:=hv;exact ⟨0,hr,fun _=>rfl,fun _ _ _ hh=>by injection hh⟩
 |st s=>obtain ⟨hs,rfl⟩:=hv;exact ⟨lenS s,hr,fun _=>by rw [lenS_eq,←size_bytesOf];rfl,fun _ _ _ hh=>by cases hh⟩
 |_=>subst hr;exact False.elim hok
theorem zeT_size {ty:TypeId} {z:AV} (hz:zeT G ty=some z) (hf:fewT G ty=true):∃i zv,G.info? ty=some i∧i.zero=some zv∧zv.cells.size=i.size∧i.size=G.cellsOf ty∧i.bytes≤1048576:=by
 obtain ⟨i,zv,h1,h2,h3,h4,h5,h6,h7⟩:=zeT_ok hz (fun _=>none)
 refine ⟨i,zv,h1,h2,h6,h7,?_⟩
 have:=Nat.le_of_ble_eq_true hf
 simpa [Program.bytesOf,h1] using this
theorem zeroCells_list (z:Array Value) (n:Nat):(Builtin.zeroCells z n)=((List.replicate n z.toList).flatten).toArray:=zero_cells z n
theorem fits_small {need old bytes:Nat} (h1:old<need) (h2:need≤1000000) (h3:bytes≤1048576):Builtin.nextslicecap need old*bytes≤281474976710656:=
 growslice_fits h1 (Nat.le_trans (Nat.mul_le_mul h2 h3) (by decide))
theorem g_ap {ty tx el:TypeId} {s x:Operand} {z:AV} {c:Call} (h:Rel φ e nx w) (hs:OD φ t ρ s) (hx:OD φ t ρ x) (hu:G.underlying ty=some (.slice el)) (hk:(∃e',G.underlying tx=some (.slice e'))∨G.underlying tx=some .string)
    (hz:zeT G el=some z) (hf:fewT G el=true) (h0:G.cellsOf el≠0) (hc:c.callee= .builtin .append) (ha:c.args= #[s,x]) (ht:c.argTypes= #[ty,tx]) (ho:o.op= .call c) (hok:(evX (.ap (G.cellsOf el) (cOd s) (cOd x)) t (.mk e nx)).ok):
    Good G φ e nx w ((execOp ρ o).run G w) (evX (.ap (G.cellsOf el) (cOd s) (cOd x)) t (.mk e nx)):=by
 obtain ⟨i,zv,i1,i2,i3,i4,i5⟩:=zeT_size hz hf
 obtain ⟨n,e1,l1,l2⟩:=sx_ok (G:=G) hx (show (onSx (evO (cOd x) t) fun n=>firstK (G.cellsOf el) (evO (cOd x) t) n (.mk e nx) fun new=>apK (G.cellsOf el) (evO (cOd s) t) n new (.mk e nx))=evX (.ap (G.cellsOf el) (cOd s) (cOd x)) t (.mk e nx) from rfl) hok
 obtain ⟨y,us,a1,a2,a3,a4,a5,e2⟩:=first_ok (G:=G) h hx (fun base m c hh=>Nat.le_of_eq (l2 base m c hh)) e1 hok
 have hsrc:Src G i.size tx (ρ x) n us w:=⟨hk,l1,by rw [i4];exact a4,by rw [i4];exact a5,by rw [i4];exact a3,a2⟩
 have hexec:∀r w',(Builtin.append_ #[ty,tx] o.type #[ρ s,ρ x]).run G w= .ok r w'→(execOp ρ o).run G w= .ok (.value r) w':=fun r w' hr=>by
  simp [execOp,ho,resolve,hc,ha,ht,invoke,builtin,hr]
 obtain ⟨a',e',nx',φ',v',w',b1,b2,b3,b4⟩:=ap_ok (run:=(Builtin.append_ #[ty,tx] o.type #[ρ s,ρ x]).run G w) h (Nat.pos_of_ne_zero h0) hs a1 a2 a3 e2 hok
  (fun b d m cp hv hle hth=>by
   rw [hv,←i4]
   exact run_append_room_src w ty tx o.type el i hu i1 b d m cp (ρ x) n us hsrc hle (fun j hj=>by rw [i4];exact (hth j hj).1) (fun j hj=>by rw [i4];exact (hth j hj).2))
  (fun base m cp olds hv hlt hle hol hb0 hb1=>by
   refine ⟨grownCap w (m+n) cp el,(Builtin.zeroCells zv.cells (grownCap w (m+n) cp el-(m+n))).toList,el,grownCap_ge _ _ _ _,?_,?_⟩
   ·rw [zeroCells_list];simp [i3,i4]
   rw [hv]
   have hold:(Builtin.firstCells i.size m (.slice base m cp)).run G w.drew= .ok olds.toArray w.drew:=by
    rw [i4]
    cases base with
    |none=>
     have:=hb0 rfl
     subst this
     obtain rfl:olds=[]:=List.eq_nil_of_length_eq_zero (by rw [hol];simp)
     exact run_firstCells_none w.drew _ _ _ _
    |some ad=>
     obtain ⟨b,d,rfl,hrg⟩:=hb1 ad rfl
     exact run_firstCells_some w.drew _ m _ m cp olds hol (fun j v hj=>by rw [add_mid];exact (World.rangeAt_drew w _ _ _).2 hrg j v hj)
   rw [run_append_grow_src w ty tx o.type el i zv hu i1 i2 base m cp olds hold (ρ x) n us hsrc hlt (by omega) (fits_small hlt hle i5)]
   congr 2
   apply congrArg (fun c=>Obj.cells c el)
   apply Array.ext';simp)
  (fun base m cp hv hle h0=>by
   subst h0
   have:us=[]:=List.eq_nil_of_length_eq_zero (by rw [a3];simp)
   subst this
   rw [hv]
   exact run_append_nothing w ty tx o.type el i hu i1 base m cp hle (ρ x) hsrc)
 rw [b1]
 exact ⟨φ',v',w',b3,b2,.inl (hexec _ _ b4)⟩
theorem g_az {ty tx el:TypeId} {kn:IntKind} {s x:Operand} {z:AV} {c:Call} (h:Rel φ e nx w) (hs:OD φ t ρ s) (hx:OD φ t ρ x) (hu:G.underlying ty=some (.slice el)) (hk:G.underlying tx=some (.int kn))
    (hz:zeT G el=some z) (hf:fewT G el=true) (h0:G.cellsOf el≠0) (hc:c.callee= .builtin .append) (ha:c.args= #[s,x]) (ht:c.argTypes= #[ty,tx]) (ho:o.op= .call c) (hok:(evX (.az (G.cellsOf el) (cellsA z) (cOd s) (cOd x)) t (.mk e nx)).ok):
    Good G φ e nx w ((execOp ρ o).run G w) (evX (.az (G.cellsOf el) (cellsA z) (cOd s) (cOd x)) t (.mk e nx)):=by
 obtain ⟨i,zv,i1,i2,i3,i4,i5⟩:=zeT_size hz hf
 obtain ⟨i',zv',z1,z2,_,z4,z5,_,_⟩:=zeT_ok hz φ
 obtain rfl:i=i':=Option.some.inj (i1.symm.trans z1)
 obtain rfl:zv=zv':=Option.some.inj (i2.symm.trans z2)
 obtain ⟨k,n0,e1,e2⟩:=onI_ok (show (onI (evO (cOd x) t) fun _ n=>onNt n fun n=>bR (Nat.ble n 1000000) (repA (cellsA z) n fun new=>apK (G.cellsOf el) (evO (cOd s) t) n new (.mk e nx)) (.bad 82))=evX (.az (G.cellsOf el) (cellsA z) (cOd s) (cOd x)) t (.mk e nx) from rfl) hok
 obtain ⟨n,rfl,e3⟩:=onNt_ok e2 hok
 obtain ⟨e4,e5⟩:=bR_ok e3 hok
 have hn:n≤1000000:=Nat.le_of_ble_eq_true e4
 obtain ⟨y,a1,a2⟩:=rep_tot z4 n
 rw [a2] at e5
 rw [OD,e1] at hx
 have hx':ρ x= .int k (n:Int):=hx
 have hsz:((List.replicate n zv.cells.toList).flatten).length=n*G.cellsOf el:=by simp [i3,i4]
 have hexec:∀r w',(Builtin.append_ #[ty,tx] o.type #[ρ s,.int k (n:Int)]).run G w= .ok r w'→(execOp ρ o).run G w= .ok (.value r) w':=fun r w' hr=>by
  simp [execOp,ho,resolve,hc,ha,ht,invoke,builtin,hx',hr]
 have hw:IntKind.i64.wrap (n:Int)=n:=in_wrap (k:= .i64) (n:= .ofNat n) (Nat.ble_eq_true_of_le (by omega))
 have hneg:¬((n:Int)<0):=by omega
 have hnb:n*i.bytes≤1000000*1048576:=Nat.mul_le_mul hn i5
 have h48i:¬(281474976710656<(n:Int)*(i.bytes:Int)):=by rw [←Int.natCast_mul];omega
 obtain ⟨a',e',nx',φ',v',w',b1,b2,b3,b4⟩:=ap_ok (run:=(Builtin.append_ #[ty,tx] o.type #[ρ s,.int k (n:Int)]).run G w) h (Nat.pos_of_ne_zero h0) hs a1 (one_rep z5 n) hsz e5 hok
  (fun b d m cp hv hle hth=>by
   rw [hv]
   have hst:=run_storeCells_cells (P:=G) b (d+m*G.cellsOf el) ((List.replicate n zv.cells.toList).flatten) 0 w (fun j hj=>by simpa using (hth j hj).1) (fun j hj=>by simpa using (hth j hj).2) (one_rep z5 n)
   simp only [Nat.add_zero] at hst
   have hzc:=zeroCells_list zv.cells n
   by_cases hn0:n=0
   ·subst hn0
    have:(List.replicate 0 zv.cells.toList).flatten=[]:=by simp
    rw [this] at hst ⊢
    have hw0:IntKind.i64.wrap (0:Int)=0:=by decide
    simp only [Nat.add_zero] at hle
    simp [hw0,Builtin.append_,run_underlying hu,run_underlying hk,sizeOf,typeInfo,i1,asInt,asIntOf,hle,add_mid,storeCells,World.setCells]
   have hns:¬(n*i.size=0):=Nat.mul_ne_zero hn0 (by rw [i4];exact h0)
   simp [Builtin.append_,run_underlying hu,run_underlying hk,sizeOf,typeInfo,zeroValue,i1,i2,asInt,asIntOf,hw,hneg,h48i,hle,hzc,add_mid,i4,hst]
   intro hh;rw [←i4] at hh;exact absurd hh hns)
  (fun base m cp olds hv hlt hle hol hb0 hb1=>by
   refine ⟨grownCap w (m+n) cp el,(Builtin.zeroCells zv.cells (grownCap w (m+n) cp el-(m+n))).toList,el,grownCap_ge _ _ _ _,?_,?_⟩
   ·rw [zeroCells_list];simp [i3,i4]
   rw [hv]
   by_cases hn0:n=0
   ·subst hn0
    have hs':vr φ (evO (cOd s) t) (ρ s):=hs
    exfalso
    have hck:(chkS (evO (cOd s) t) (fV (evO (cOd s) t) fun s=>R.v s (.mk e nx)))=_:=e5
    obtain ⟨⟨b2,n2,c2,q1,q2⟩,_⟩:=chkS_ok hs' hck hok
    rw [hv] at q1;injection q1 with q3 q4 q5;omega
   have hold : (Builtin.firstCells i.size m (.slice base m cp)).run G w.drew = .ok olds.toArray w.drew := by
    rw [i4]
    cases base with
    |none=>
     have:=hb0 rfl
     subst this
     obtain rfl:olds=[]:=List.eq_nil_of_length_eq_zero (by rw [hol];simp)
     exact run_firstCells_none w.drew _ _ _ _
    |some ad=>
     obtain ⟨b,d,rfl,hrg⟩:=hb1 ad rfl
     exact run_firstCells_some w.drew _ m _ m cp olds hol (fun j v hj=>by rw [add_mid];exact (World.rangeAt_drew w _ _ _).2 hrg j v hj)
   rw [Lib.run_append_grow_zeros w ty tx o.type el i zv k kn hu hk i1 i2 base m cp olds hold n (by omega) (by rw [i4];omega) hlt (by omega) (by omega) (fits_small hlt hle i5),zeroCells_list zv.cells n]
   congr 2
   apply congrArg (fun c=>Obj.cells c el)
   apply Array.ext';simp)
  (fun base m cp hv hle h0=>by
   subst h0
   rw [hv]
   cases base<;>simp [Builtin.append_,run_underlying hu,run_underlying hk,sizeOf,typeInfo,i1,asInt,asIntOf,show IntKind.i64.wrap (0:Int)=0 by decide,hle,storeCells])
 rw [b1]
 exact ⟨φ',v',w',b3,b2,.inl (hexec _ _ b4)⟩
theorem g_cy {ty el:TypeId} {ts':List TypeId} {d s:Operand} {c:Call} (h:Rel φ e nx w) (hd:OD φ t ρ d) (hs:OD φ t ρ s) (hu:G.underlying ty=some (.slice el)) (hin:inT G el=true)
    (hc:c.callee= .builtin .copy) (ha:c.args= #[d,s]) (ht:c.argTypes.toList=ty::ts') (ho:o.op= .call c) (hok:(evX (.cy (G.cellsOf el) (cOd d) (cOd s)) t (.mk e nx)).ok):
    Good G φ e nx w ((execOp ρ o).run G w) (evX (.cy (G.cellsOf el) (cOd d) (cOd s)) t (.mk e nx)):=by
 have e0:(onSl (evO (cOd d) t) (fun b o m=>onSx (evO (cOd s) t) fun n=>fN (minN n m) fun k=>firstK (G.cellsOf el) (evO (cOd s) t) k (.mk e nx) fun l=>wrK b o l (.mk e nx) fun h=>rN k h) (onSx (evO (cOd s) t) fun _=>rN 0 (.mk e nx)))=evX (.cy (G.cellsOf el) (cOd d) (cOd s)) t (.mk e nx):=rfl
 have hd':vr φ (evO (cOd d) t) (ρ d):=hd
 have ht0:c.argTypes[0]? =some ty:=by rw [←Array.getElem?_toList,ht];rfl
 have hexec:∀r w',(Builtin.copy_ c.argTypes o.type #[ρ d,ρ s]).run G w= .ok r w'→(execOp ρ o).run G w= .ok (.value r) w':=fun r w' hr=>by
  simp [execOp,ho,resolve,hc,ha,invoke,builtin,hr]
 have main:∀(b:P) (q m cp:Nat) (l:Loc),φ b=some l→ρ d= .slice (some ⟨l.B,l.d+q,none⟩) m cp→
     (onSx (evO (cOd s) t) fun n=>fN (minN n m) fun k=>firstK (G.cellsOf el) (evO (cOd s) t) k (.mk e nx) fun l=>wrK b q l (.mk e nx) fun h=>rN k h)=evX (.cy (G.cellsOf el) (cOd d) (cOd s)) t (.mk e nx)→Good G φ e nx w ((execOp ρ o).run G w) (evX (.cy (G.cellsOf el) (cOd d) (cOd s)) t (.mk e nx)):=fun b q m cp l hl hv e1=>by
  obtain ⟨n,e2,l1,l2⟩:=sx_ok (G:=G) hs e1 hok
  rw [fN_eq,minN_eq] at e2
  obtain ⟨y,us,a1,a2,a3,a4,a5,e3⟩:=first_ok (G:=G) h hs (fun base m2 c hh=>by rw [←l2 base m2 c hh];exact Nat.min_le_left _ _) e2 hok
  obtain ⟨e',f1,f2,f3,_⟩:=wr_ok h rfl hl a1 a2 e3 hok
  rw [←f1,rN_eq]
  have hst:=run_storeCells_cells (P:=G) l.B (l.d+q) us 0 w (fun j hj=>by simpa using (f3 j hj).1) (fun j hj=>by simpa using (f3 j hj).2) a2
  simp only [Nat.add_zero] at hst
  refine ⟨φ,.int .i64 ((min n m:Nat):Int),_,f2,rfl,.inl (hexec _ _ ?_)⟩
  rw [hv]
  have a4':(Builtin.firstCells (G.cellsOf el) (n.min m) (ρ s)).run G w= .ok us.toArray w:=a4
  simp [Builtin.copy_,ht0,run_underlying hu,l1,run_sizeOf' hin,a4',hst,goInt]
 rcases onSl_ok e0 hok with ⟨b,q,m,cp,e1,e2⟩|⟨b,q,m,z,e1,e2⟩|⟨e1,e2⟩
 ·rw [e1] at hd';obtain ⟨l,hl,hv⟩:=hd';exact main b q m cp l hl hv e2
 ·rw [e1] at hd';obtain ⟨l,cp,hl,_,_,_,hv⟩:=hd';exact main b q m cp l hl hv e2
 obtain ⟨n,e3,l1,l2⟩:=sx_ok (G:=G) hs e2 hok
 rw [rN_eq] at e3
 rw [←e3]
 have hv:∃a cp,ρ d= .slice a 0 cp:=by
  rcases e1 with e1|e1
  ·rw [e1] at hd';exact ⟨_,_,hd'⟩
  rw [e1] at hd';obtain ⟨a,cp,hr⟩:=hd';exact ⟨_,_,hr⟩
 obtain ⟨a,cp,hv⟩:=hv
 have hfc:(Builtin.firstCells (G.cellsOf el) 0 (ρ s)).run G w= .ok #[] w:=by
  have hs':vr φ (evO (cOd s) t) (ρ s):=hs
  have hld:∀ad,(loadCells ad (0*G.cellsOf el)).run G w= .ok #[] w:=fun ad=>by simp [loadCells,loadCellsFrom]
  generalize evO (cOd s) t=aa at hs' e2
  cases aa with
  |sl b q m c=>obtain ⟨l,_,e⟩:=hs';rw [e];exact hld _
  |su b q m c=>obtain ⟨l,c,_,_,_,_,e⟩:=hs';rw [e];exact hld _
  |sn=>have e:ρ s=_:=hs';rw [e];rfl
  |se=>obtain ⟨l,c,e⟩:=hs';rw [e];exact hld _
  |st s=>obtain ⟨_,e⟩:=hs';rw [e];simp [Builtin.firstCells]
  |_=>rw [←e2] at hok;exact False.elim hok
 refine ⟨φ,.int .i64 (0:Int),w,Stp.refl h,rfl,.inl (hexec _ _ ?_)⟩
 rw [hv]
 cases a<;>simp [Builtin.copy_,ht0,run_underlying hu,l1,run_sizeOf' hin,hfc,storeCells,goInt]
theorem g_cz {ty el:TypeId} {x:Operand} {z:AV} {c:Call} (h:Rel φ e nx w) (hx:OD φ t ρ x) (hu:G.underlying ty=some (.slice el)) (hz:zeT G el=some z)
    (hc:c.callee= .builtin .clear) (ha:c.args= #[x]) (ht:c.argTypes= #[ty]) (ho:o.op= .call c) (hok:(evX (.cz (cellsA z) (cOd x)) t (.mk e nx)).ok):
    Good G φ e nx w ((execOp ρ o).run G w) (evX (.cz (cellsA z) (cOd x)) t (.mk e nx)):=by
 obtain ⟨i,zv,i1,i2,_,z4,z5,z6,z7⟩:=zeT_ok hz φ
 have e0:(onSl (evO (cOd x) t) (fun b o n=>Nat.rec (motive:=fun _=>R) (.v undefA (.mk e nx)) (fun _ _=>repA (cellsA z) n fun l=>wrK b o l (.mk e nx) fun h=> .v undefA h) n) (.v undefA (.mk e nx)))=evX (.cz (cellsA z) (cOd x)) t (.mk e nx):=rfl
 have hx':vr φ (evO (cOd x) t) (ρ x):=hx
 have hexec:∀r w',(Builtin.clear_ #[ty] o.type #[ρ x]).run G w= .ok r w'→(execOp ρ o).run G w= .ok (.value r) w':=fun r w' hr=>by
  simp [execOp,ho,resolve,hc,ha,ht,invoke,builtin,hr]
 have nil:∀base cp,ρ x= .slice base 0 cp→(Builtin.clear_ #[ty] o.type #[ρ x]).run G w= .ok (.tuple #[]) w:=fun base cp hr=>by
  rw [hr];cases base<;>simp [Builtin.clear_,run_underlying hu]
 have main : ∀ (b : P) (q n cp : Nat) (l : Loc), φ b = some l → ρ x = .slice (some ⟨l.B, l.d + q, none⟩) n cp →
     Nat.rec (motive:=fun _=>R) (.v undefA (.mk e nx)) (fun _ _=>repA (cellsA z) n fun l=>wrK b q l (.mk e nx) fun h=> .v undefA h) n=evX (.cz (cellsA z) (cOd x)) t (.mk e nx)→Good G φ e nx w ((execOp ρ o).run G w) (evX (.cz (cellsA z) (cOd x)) t (.mk e nx)):=fun b q n cp l hl hv e1=>by
  cases n with
  |zero=>
   have e2:R.v undefA (.mk e nx)=evX (.cz (cellsA z) (cOd x)) t (.mk e nx):=e1
   rw [←e2]
   exact ⟨φ,.tuple #[],w,Stp.refl h,⟨#[],rfl,rfl⟩,.inl (hexec _ _ (nil _ _ hv))⟩
  |succ n=>
   have e2:(repA (cellsA z) (n+1) fun l=>wrK b q l (.mk e nx) fun h=> .v undefA h)=evX (.cz (cellsA z) (cOd x)) t (.mk e nx):=e1
   obtain ⟨y,a1,a2⟩:=rep_tot z4 (n+1)
   rw [a2] at e2
   obtain ⟨e',f1,f2,f3,_⟩:=wr_ok h rfl hl a1 (one_rep z5 (n+1)) e2 hok
   rw [←f1]
   have hst:=run_storeCells_cells (P:=G) l.B (l.d+q) ((List.replicate (n+1) zv.cells.toList).flatten) 0 w (fun j hj=>by simpa using (f3 j hj).1) (fun j hj=>by simpa using (f3 j hj).2) (one_rep z5 (n+1))
   simp only [Nat.add_zero] at hst
   refine ⟨φ,.tuple #[],_,f2,⟨#[],rfl,rfl⟩,.inl (hexec _ _ ?_)⟩
   rw [hv]
   have hzc:=zeroCells_list zv.cells (n+1)
   simp [Builtin.clear_,run_underlying hu,run_zero' i1 i2,hzc,hst]
 rcases onSl_ok e0 hok with ⟨b,q,n,cp,e1,e2⟩|⟨b,q,n,z',e1,e2⟩|⟨e1,e2⟩
 ·rw [e1] at hx';obtain ⟨l,hl,hv⟩:=hx';exact main b q n cp l hl hv e2
 ·rw [e1] at hx';obtain ⟨l,cp,hl,_,_,_,hv⟩:=hx';exact main b q n cp l hl hv e2
 have hv : ∃ a cp, ρ x = .slice a 0 cp := by
  rcases e1 with e1|e1
  ·rw [e1] at hx';exact ⟨_,_,hx'⟩
  rw [e1] at hx';obtain ⟨a,cp,hr⟩:=hx';exact ⟨_,_,hr⟩
 obtain ⟨a,cp,hv⟩:=hv
 rw [←e2]
 exact ⟨φ,.tuple #[],w,Stp.refl h,⟨#[],rfl,rfl⟩,.inl (hexec _ _ (nil _ _ hv))⟩
theorem g_ca {f:Operand} {c:Call} (h:Rel φ e nx w) (hf:OD φ t ρ f) (hx:∀y∈c.args.toList,OD φ t ρ y) (hc:c.callee= .value f) (ho:o.op= .call c) (hok:(evX (.ca (cOd f) (cOl c.args.toList)) t (.mk e nx)).ok):
    Good G φ e nx w ((execOp ρ o).run G w) (evX (.ca (cOd f) (cOl c.args.toList)) t (.mk e nx)):=by
 obtain ⟨l,h1,h2⟩:=evL_ok hx (show (evL (cOl c.args.toList) t fun xs=>caA (evO (cOd f) t) xs (.mk e nx))=evX (.ca (cOd f) (cOl c.args.toList)) t (.mk e nx) from rfl)
 have hf':vr φ (evO (cOd f) t) (ρ f):=hf
 rw [←h2] at hok ⊢
 generalize evO (cOd f) t=a at hf' hok
 cases a with
 |fn g x y=>
  obtain ⟨u,v,e1,e2,e3⟩:=hf'
  obtain ⟨p,p1,p2⟩:=app_tot h1 e3
  obtain ⟨q,q1,q2⟩:=app_tot e2 p1
  have e4:caA (.fn g x y) l (.mk e nx)= .call g q (.mk e nx):=((p2 fun l=>appA x l fun l=> .call g l (.mk e nx))).trans (q2 _)
  rw [e4]
  refine ⟨rfl,u++(c.args.map ρ++v),by simpa using q1,?_⟩
  simp [execOp,ho,resolve,hc,e1,Deferred.ofValue,invoke,Array.append_assoc]
 |yl r=>
  obtain ⟨L,hL,e1⟩:=hf'
  refine ⟨rfl,L,c.args.map ρ,hL,by simpa using h1,?_⟩
  simp [execOp,ho,resolve,hc,e1,Deferred.ofValue,invoke]
 |_=>exact False.elim hok
end
end Go.Ev
namespace Go.Ev
open Classical
section
variable {G:Program} {φ:Phi} {t:TV} {ρ:Operand→Value} {o:Oper}
inductive Out (G:Program) (φ:Phi) (t:TV) (ρ:Operand→Value) (o:Oper) (x:XO):Prop where
 |pu (hc:clX x=0) (h:∀h,(evX x t h).ok→Pu G φ o ρ h (evX x t h))
 |al (hc:clX x=1) (h:∀e nx,(evX x t (.mk e nx)).ok→AlOk G φ o ρ x t)
 |rd (hc:clX x=2) (h:∀e nx w,Rel φ e nx w→(evX x t (.mk e nx)).ok→Rd G φ e nx w o ρ (evX x t (.mk e nx)))
 |ef (hc:clX x=3) (h:∀e nx w,Rel φ e nx w→(evX x t (.mk e nx)).ok→Good G φ e nx w ((execOp ρ o).run G w) (evX x t (.mk e nx)))
theorem out_bad (n:Nat):Out G φ t ρ o (.bad n):= .ef rfl fun _ _ _ _ h=>False.elim h
theorem parts_od {ps:Array (Nat×Operand)} (h:∀y∈(ps.toList.map (·.2)).toArray,OD φ t ρ y):∀p∈ps.toList,OD φ t ρ p.2:=fun p hp=>h p.2 (by simpa using ⟨p.1,by simpa using hp⟩)
theorem arr1 {α:Type} {a:Array α} {x:α} (h:a.toList=[x]):a= #[x]:=Array.ext' h
theorem arr2 {α:Type} {a:Array α} {x y:α} (h:a.toList=[x,y]):a= #[x,y]:=Array.ext' h
theorem out_call {c:Call} (ho:o.op= .call c) (hod:∀y∈c.operands,OD φ t ρ y):Out G φ t ρ o (cCall G c):=by
 unfold cCall
 have hargs:∀y∈c.args.toList,OD φ t ρ y:=fun y hy=>hod y (by
  unfold Call.operands
  cases hc:c.callee<;>simp_all)
 cases hc:c.callee with
 |value f=>
  have hf:OD φ t ρ f:=hod f (by unfold Call.operands;rw [hc];simp)
  exact .ef rfl fun e nx w h hok=>g_ca h hf hargs hc ho hok
 |invoke r n=>exact out_bad _
 |builtin b=>
  have one:∀{x},c.args.toList=[x]→OD φ t ρ x:=fun {x} h=>hargs x (by rw [h];simp)
  have two:∀{x y},c.args.toList=[x,y]→OD φ t ρ x∧OD φ t ρ y:=fun {x y} h=>⟨hargs x (by rw [h];simp),hargs y (by rw [h];simp)⟩
  simp only
  split
  ·rename_i s x ty tx ha ht
   split
   ·rename_i el kn hu hk
    split
    ·rename_i z hz
     split
     ·exact out_bad _
     rename_i hn
     rw [not_or] at hn
     exact .ef rfl fun e nx w h hok=>g_az h (two ha).1 (two ha).2 hu hk hz (by simpa using hn.2) hn.1 hc (arr2 ha) (arr2 ht) ho hok
    exact out_bad _
   ·rename_i el e' hu hk
    split
    ·rename_i z hz
     split
     ·exact out_bad _
     rename_i hn
     rw [not_or] at hn
     exact .ef rfl fun e nx w h hok=>g_ap h (two ha).1 (two ha).2 hu (.inl ⟨_,hk⟩) hz (by simpa using hn.2) hn.1 hc (arr2 ha) (arr2 ht) ho hok
    exact out_bad _
   ·rename_i el hu hk
    split
    ·rename_i z hz
     split
     ·exact out_bad _
     rename_i hn
     rw [not_or] at hn
     exact .ef rfl fun e nx w h hok=>g_ap h (two ha).1 (two ha).2 hu (.inr hk) hz (by simpa using hn.2) hn.1 hc (arr2 ha) (arr2 ht) ho hok
    exact out_bad _
   exact out_bad _
  ·rename_i x ty ha ht
   split
   ·rename_i j el hu
    exact .rd rfl fun e nx w h hok=>r_lm h (one ha) hu hc (arr1 ha) (arr1 ht) ho hok
   ·rename_i n el hu
    exact .pu rfl fun h _=>p_la hu hc (arr1 ha) (arr1 ht) ho
   ·rename_i el hu
    exact .pu rfl fun h hok=>p_le (one ha) hu hc (arr1 ha) (arr1 ht) ho hok
   ·rename_i hu
    exact .pu rfl fun h hok=>p_ls (one ha) hu hc (arr1 ha) (arr1 ht) ho hok
   exact out_bad _
  ·rename_i x ty ha ht
   split
   ·rename_i el hu
    exact .pu rfl fun h hok=>p_cp (one ha) hu hc (arr1 ha) (arr1 ht) ho hok
   exact out_bad _
  ·rename_i d s ty tl ha ht
   split
   ·rename_i el hu
    split
    ·rename_i hin
     exact .ef rfl fun e nx w h hok=>g_cy h (two ha).1 (two ha).2 hu hin hc (arr2 ha) ht ho hok
    exact out_bad _
   exact out_bad _
  ·rename_i x y ha
   exact .pu rfl fun h hok=>p_m2 (mx:=true) (two ha).1 (two ha).2 hc (arr2 ha) ho hok
  ·rename_i x y ha
   exact .pu rfl fun h hok=>p_m2 (mx:=false) (two ha).1 (two ha).2 hc (arr2 ha) ho hok
  ·rename_i x y z ha
   exact .pu rfl fun h hok=>p_m3 (mx:=true) (hargs x (by rw [ha];simp)) (hargs y (by rw [ha];simp)) (hargs z (by rw [ha];simp)) hc (Array.ext' ha) ho hok
  ·rename_i x y z ha
   exact .pu rfl fun h hok=>p_m3 (mx:=false) (hargs x (by rw [ha];simp)) (hargs y (by rw [ha];simp)) (hargs z (by rw [ha];simp)) hc (Array.ext' ha) ho hok
  ·rename_i x ty ha ht
   split
   ·rename_i el hu
    split
    ·rename_i z hz
     exact .ef rfl fun e nx w h hok=>g_cz h (one ha) hu hz hc (arr1 ha) (arr1 ht) ho hok
    exact out_bad _
   exact out_bad _
  exact out_bad _
theorem out_bi {op:BinOp} {xt yt:TypeId} {x y:Operand} (ho:o.op= .binOp op xt x y yt) (hx:OD φ t ρ x) (hy:OD φ t ρ y):Out G φ t ρ o (cBi G op xt x y):=by
 unfold cBi
 split
 ·exact .pu rfl fun h hok=>p_bi hx hy ho hok
 ·exact .pu rfl fun h hok=>p_bt hx hy ho hok
 split
 ·rename_i c hc
  exact .pu rfl fun h hok=>p_ee (ng:=false) hx hy rfl hc ho hok
 ·rename_i c hc
  exact .pu rfl fun h hok=>p_ee (ng:=true) hx hy rfl hc ho hok
 ·split
  ·rename_i os hos;exact .pu rfl fun h hok=>p_eg (ng:=false) hx hy rfl hos ho hok
  exact out_bad _
 ·split
  ·rename_i os hos;exact .pu rfl fun h hok=>p_eg (ng:=true) hx hy rfl hos ho hok
  exact out_bad _
 exact out_bad _
theorem op_out (hod:∀y∈o.op.operands,okOd y=true→OD φ t ρ y):Out G φ t ρ o (cOpr G o):=by
 unfold cOpr
 split
 case isFalse=>exact out_bad _
 rename_i hall
 have hd:∀y∈o.op.operands,OD φ t ρ y:=fun y hy=>hod y hy (List.all_eq_true.1 hall y (by simpa using hy))
 clear hod hall
 unfold cOp
 cases ho:o.op with
 |move x=>rw [ho] at hd;exact .pu rfl fun h _=>p_mv (hd x (by simp [Op.operands])) (.inl ho)
 |assign x=>rw [ho] at hd;exact .pu rfl fun h _=>p_mv (hd x (by simp [Op.operands])) (.inr ho)
 |pick c a b=>rw [ho] at hd;exact .pu rfl fun h hok=>p_pk (hd c (by simp [Op.operands])) (hd a (by simp [Op.operands])) (hd b (by simp [Op.operands])) ho hok
 |alloc ty=>
  simp only
  split
  ·rename_i z hz;exact .al rfl fun e nx _=>a_al hz ho
  exact out_bad _
 |box ty x=>rw [ho] at hd;exact .al rfl fun e nx hok=>a_bx (hd x (by simp [Op.operands])) ho hok
 |build ty ps=>
  rw [ho] at hd
  simp only
  split
  ·rename_i fs z hu hz
   split
   ·rename_i pl hpl
    split
    ·rename_i hfs;exact .pu rfl fun h hok=>p_buS (parts_od hd) hz hu hpl hfs ho hok
    exact out_bad _
   exact out_bad _
  ·rename_i n el z hu hz
   split
   ·rename_i hin;exact .pu rfl fun h hok=>p_buA (parts_od hd) hz hu hin ho hok
   exact out_bad _
  exact out_bad _
 |buildSlice ty n ps=>
  rw [ho] at hd
  simp only
  split
  ·rename_i el hu
   split
   ·rename_i z hz
    split
    ·rename_i hle;exact .al rfl fun e nx hok=>a_bs (parts_od hd) hu hz (Nat.le_of_ble_eq_true hle) ho hok
    exact out_bad _
   exact out_bad _
  exact out_bad _
 |insert ty m k x=>
  rw [ho] at hd
  simp only
  split
  ·rename_i j el hu
   split
   ·rename_i kd hkd;exact .ef rfl fun e nx w h hok=>g_mu h (hd m (by simp [Op.operands])) (hd k (by simp [Op.operands])) (hd x (by simp [Op.operands])) hu hkd (.inr ho) hok
   exact out_bad _
  exact out_bad _
 |load ty x=>
  rw [ho] at hd
  simp only
  split
  ·rename_i hu;exact .rd rfl fun e nx w h hok=>r_ld h (hd x (by simp [Op.operands])) hu ho hok
  exact out_bad _
 |store ty a x=>
  rw [ho] at hd
  simp only
  split
  ·rename_i hu;exact .ef rfl fun e nx w h hok=>g_sr h (hd a (by simp [Op.operands])) (hd x (by simp [Op.operands])) hu ho hok
  exact out_bad _
 |nilCheck x=>rw [ho] at hd;exact .pu rfl fun h hok=>p_nc (hd x (by simp [Op.operands])) ho hok
 |binOp op xt x y yt=>rw [ho] at hd;exact out_bi ho (hd x (by simp [Op.operands])) (hd y (by simp [Op.operands]))
 |unOp op ty x=>rw [ho] at hd;exact .pu rfl fun h hok=>p_un (hd x (by simp [Op.operands])) ho hok
 |convert s d x=>
  rw [ho] at hd
  have hx:=hd x (by simp [Op.operands])
  simp only
  split
  ·rename_i i k h1 h2;exact .pu rfl fun h hok=>p_ci hx h1 h2 ho hok
  ·rename_i h1 h2;exact .pu rfl fun h hok=>p_sv hx h1 h2 ho hok
  ·rename_i el h1 h2
   split
   ·rename_i h3;exact .rd rfl fun e nx w h hok=>r_cs h hx h1 h3 h2 ho hok
   exact out_bad _
  exact out_bad _
 |makeInterface ty x=>
  rw [ho] at hd
  simp only
  split
  ·exact out_bad _
  ·rename_i d hd2 hu;exact .pu rfl fun h _=>p_mi (hd x (by simp [Op.operands])) hu (fun m hm=>hd2 m hm) ho
  exact out_bad _
 |makeFunc fn xs ys=>
  rw [ho] at hd
  cases fn with
  |func f=>exact .pu rfl fun h _=>p_mf (fun y hy=>hd y (by simp [Op.operands];exact .inl (by simpa using hy))) (fun y hy=>hd y (by simp [Op.operands];exact .inr (by simpa using hy))) ho
  |_=>exact out_bad _
 |makeMap ty r=>
  rw [ho] at hd
  simp only
  split
  ·rename_i j el hu
   exact .al rfl fun e nx hok=>a_mm (fun y hy=>hd y (by subst hy;simp [Op.operands])) hu ho hok
  exact out_bad _
 |makeSlice ty l c=>
  rw [ho] at hd
  simp only
  split
  ·rename_i el hu
   split
   ·rename_i z hz
    split
    ·rename_i hf;exact .al rfl fun e nx hok=>a_ms (hd l (by simp [Op.operands])) (hd c (by simp [Op.operands])) hu hz hf ho hok
    exact out_bad _
   exact out_bad _
  exact out_bad _
 |slice ty x lo hi mx=>
  rw [ho] at hd
  have hx:=hd x (by simp [Op.operands])
  have hlo:∀y,lo=some y→OD φ t ρ y:=fun y hy=>hd y (by subst hy;simp [Op.operands])
  have hhi:∀y,hi=some y→OD φ t ρ y:=fun y hy=>hd y (by subst hy;simp [Op.operands])
  have hmx:∀y,mx=some y→OD φ t ρ y:=fun y hy=>hd y (by subst hy;simp [Op.operands])
  simp only
  split
  ·rename_i hm
   split
   ·rename_i el hu
    split
    ·rename_i hin;exact .rd rfl fun e nx w h hok=>r_sc h hx hlo hhi hmx hu hin hm ho hok
    exact out_bad _
   ·rename_i hu;exact .pu rfl fun h hok=>p_ss hx hlo hhi hu ho hok
   ·rename_i a hu
    split
    ·rename_i n el hu2
     split
     ·rename_i hin;exact .pu rfl fun h hok=>p_sa hx hlo hhi hmx (.inr ⟨a,hu,hu2⟩) hin hm ho hok
     exact out_bad _
    exact out_bad _
   ·rename_i n el hu
    split
    ·rename_i hin;exact .pu rfl fun h hok=>p_sa hx hlo hhi hmx (.inl hu) hin hm ho hok
    exact out_bad _
   exact out_bad _
  exact out_bad _
 |fieldAddr ty x i=>
  rw [ho] at hd
  simp only
  split
  ·rename_i fs hu
   split
   ·rename_i f hf
    split
    ·exact out_bad _
    rename_i h0;exact .pu rfl fun h hok=>p_fa (hd x (by simp [Op.operands])) hu hf h0 ho hok
   exact out_bad _
  exact out_bad _
 |field ty x i=>
  rw [ho] at hd
  simp only
  split
  ·rename_i fs hu
   split
   ·rename_i f hf
    split
    ·rename_i h0;exact .pu rfl fun h hok=>p_fi (hd x (by simp [Op.operands])) hu hf h0 ho hok
    exact out_bad _
   exact out_bad _
  exact out_bad _
 |indexAddr ty x i=>
  rw [ho] at hd
  have hx:=hd x (by simp [Op.operands])
  have hi:=hd i (by simp [Op.operands])
  simp only
  split
  ·rename_i el hu
   split
   ·rename_i hin;exact .pu rfl fun h hok=>p_ia hx hi hu hin ho hok
   exact out_bad _
  ·rename_i n el hu
   split
   ·rename_i hin;exact .pu rfl fun h hok=>p_iy hx hi hu hin ho hok
   exact out_bad _
  exact out_bad _
 |index ty x i=>
  rw [ho] at hd
  have hx:=hd x (by simp [Op.operands])
  have hi:=hd i (by simp [Op.operands])
  simp only
  split
  ·rename_i hu;exact .pu rfl fun h hok=>p_ih hx hi hu ho hok
  ·rename_i n el hu
   split
   ·rename_i hin;exact .pu rfl fun h hok=>p_ix hx hi hu hin ho hok
   exact out_bad _
  exact out_bad _
 |lookup ty m k ok=>
  rw [ho] at hd
  simp only
  split
  ·rename_i j el hu
   split
   ·rename_i z kd hz hkd;exact .rd rfl fun e nx w h hok=>r_lk h (hd m (by simp [Op.operands])) (hd k (by simp [Op.operands])) hu hz hkd ho hok
   exact out_bad _
  exact out_bad _
 |mapUpdate ty m k x=>
  rw [ho] at hd
  simp only
  split
  ·rename_i j el hu
   split
   ·rename_i kd hkd;exact .ef rfl fun e nx w h hok=>g_mu h (hd m (by simp [Op.operands])) (hd k (by simp [Op.operands])) (hd x (by simp [Op.operands])) hu hkd (.inl ho) hok
   exact out_bad _
  exact out_bad _
 |extract x i=>rw [ho] at hd;exact .pu rfl fun h hok=>p_et (hd x (by simp [Op.operands])) ho hok
 |call c=>rw [ho] at hd;exact out_call ho hd
 |_=>exact out_bad _
end
end Go.Ev
namespace Go.Ev
open Classical
section
variable {Q:R→R→Prop} (hb:∀n,Q (.bad n) (.bad n))
include hb
theorem q_onI {a:AV} {K L:IntKind→Int→R} (h:∀k n,Q (K k n) (L k n)):Q (onI a K) (onI a L):=by cases a<;>first|exact h _ _|exact hb _
theorem q_onB {a:AV} {K L:Bool→R} (h:∀k,Q (K k) (L k)):Q (onB a K) (onB a L):=by cases a<;>first|exact h _|exact hb _
theorem q_onS {a:AV} {K L:List Nat→R} (h:∀k,Q (K k) (L k)):Q (onS a K) (onS a L):=by cases a<;>first|exact h _|exact hb _
theorem q_onP {a:AV} {K L:P→Nat→R} (h:∀k n,Q (K k n) (L k n)):Q (onP a K) (onP a L):=by cases a<;>first|exact h _ _|exact hb _
theorem q_onA {a:AV} {K L:AV→R} (h:∀k,Q (K k) (L k)):Q (onA a K) (onA a L):=by cases a<;>first|exact h _|exact hb _
theorem q_onT {a:AV} {K L:AV→R} (h:∀k,Q (K k) (L k)):Q (onT a K) (onT a L):=by cases a<;>first|exact h _|exact hb _
theorem q_onL {a:AV} {K L:AV→AV→R} (h:∀k n,Q (K k n) (L k n)):Q (onL a K) (onL a L):=by cases a<;>first|exact h _ _|exact hb _
theorem q_onSl {a:AV} {K L:P→Nat→Nat→R} {N M:R} (h:∀b o n,Q (K b o n) (L b o n)) (h':Q N M):Q (onSl a K N) (onSl a L M):=by cases a<;>first|exact h _ _ _|exact h'|exact hb _
theorem q_onS3 {a:AV} {K L K2 L2:P→Nat→Nat→Nat→R} {N M:R} (h:∀b o n c,Q (K b o n c) (L b o n c)) (h2:∀b o n c,Q (K2 b o n c) (L2 b o n c)) (h':Q N M):Q (onS3 a K K2 N) (onS3 a L L2 M):=by cases a<;>first|exact h _ _ _ _|exact h2 _ _ _ _|exact h'|exact hb _
theorem q_onNt {a:Int} {K L:Nat→R} (h:∀k,Q (K k) (L k)):Q (onNt a K) (onNt a L):=by cases a<;>first|exact h _|exact hb _
theorem q_bR {b:Bool} {x y x' y':R} (h:Q x x') (h':Q y y'):Q (bR b x y) (bR b x' y'):=by cases b<;>first|exact h|exact h'
theorem q_fV {a:AV} {K L:AV→R} (h:∀k,Q (K k) (L k)):Q (fV a K) (fV a L):=by rw [fV_eq,fV_eq];exact h _
theorem q_fN {a:Nat} {K L:Nat→R} (h:∀k,Q (K k) (L k)):Q (fN a K) (fN a L):=h _
theorem q_nthA:∀{a:AV} {i:Nat} {K L:AV→R} (_:∀k,Q (K k) (L k)),Q (nthA a i K) (nthA a i L):=by
 intro a
 induction a with
 |lc x y _ ih=>intro i K L h;cases i with
  |zero=>exact h _
  |succ i=>exact ih h
 |_=>intro i K L h;exact hb _
theorem q_takeA:∀{a:AV} {i:Nat} {K L:AV→R} (_:∀k,Q (K k) (L k)),Q (takeA a i K) (takeA a i L):=by
 intro a
 induction a with
 |ln=>intro i K L h;cases i with
  |zero=>exact h _
  |succ i=>exact hb _
 |lc x y _ ih=>intro i K L h;cases i with
  |zero=>exact h _
  |succ i=>exact ih fun k=>h _
 |_=>intro i K L h;exact hb _
theorem q_appA:∀{a b:AV} {K L:AV→R} (_:∀k,Q (K k) (L k)),Q (appA a b K) (appA a b L):=by
 intro a
 induction a with
 |ln=>intro b K L h;exact h _
 |lc x y _ ih=>intro b K L h;exact ih fun k=>h _
 |_=>intro b K L h;exact hb _
theorem q_overA:∀{a b:AV} {K L:AV→R} (_:∀k,Q (K k) (L k)),Q (overA a b K) (overA a b L):=by
 intro a
 induction a with
 |ln=>intro b K L h;exact h _
 |lc x y _ ih=>intro b K L h;exact q_onL hb fun _ _=>ih fun k=>h _
 |_=>intro b K L h;exact hb _
theorem q_putA:∀{a:AV} {i:Nat} {b:AV} {K L:AV→R} (_:∀k,Q (K k) (L k)),Q (putA a i b K) (putA a i b L):=by
 intro a
 induction a with
 |ln=>intro i b K L h;cases i with
  |zero=>exact q_overA hb h
  |succ i=>exact hb _
 |lc x y _ ih=>intro i b K L h;cases i with
  |zero=>exact q_overA hb h
  |succ i=>exact ih fun k=>h _
 |_=>intro i b K L h;exact hb _
theorem q_ldC {w n o:Nat} {c:AV} {K L:AV→R} (h:∀k,Q (K k) (L k)):Q (ldC w n c o K) (ldC w n c o L):=by
 cases w with
 |zero=>exact q_nthA hb h
 |succ w=>exact q_bR hb (q_takeA hb fun k=>h _) (hb _)
theorem q_evL {t:TV}:∀{l:OL} {K L:AV→R} (_:∀k,Q (K k) (L k)),Q (evL l t K) (evL l t L):=by
 intro l
 induction l with
 |z=>intro K L h;exact h _
 |c x r ih=>intro K L h;exact q_fV hb fun v=>ih fun k=>h _
theorem q_evN {x:MO} {t:TV} {d:Nat} {K L:Nat→R} (h:∀k,Q (K k) (L k)):Q (evN x t d K) (evN x t d L):=by
 cases x with
 |z=>exact h _
 |s x=>exact q_onI hb fun _ n=>q_onNt hb h
theorem q_fillP {t:TV}:∀{l:PL} {z:AV} {K L:AV→R} (_:∀k,Q (K k) (L k)),Q (fillP l t z K) (fillP l t z L):=by
 intro l
 induction l with
 |z=>intro z K L h;exact h _
 |c o n x r ih=>intro z K L h;exact q_bR hb (q_putA hb fun k=>ih h) (hb _)
theorem q_repA {z:AV}:∀{n:Nat} {K L:AV→R} (_:∀k,Q (K k) (L k)),Q (repA z n K) (repA z n L)
 |0,_,_,h=>h _
 |n+1,_,_,h=>q_repA (n:=n) fun k=>q_appA hb h
theorem q_takeS:∀{a:List Nat} {i:Nat} {K L:List Nat→R} (_:∀k,Q (K k) (L k)),Q (takeS a i K) (takeS a i L)
 |[],0,_,_,h=>h _
 |[],i+1,_,_,h=>hb _
 |x::a,0,_,_,h=>h _
 |x::a,i+1,_,_,h=>q_takeS (a:=a) (i:=i) fun k=>h _
theorem q_nthS:∀{a:List Nat} {i:Nat} {K L:Nat→R} (_:∀k,Q (K k) (L k)),Q (nthS a i K) (nthS a i L)
 |[],_,_,_,h=>hb _
 |x::a,0,_,_,h=>h _
 |x::a,i+1,_,_,h=>q_nthS (a:=a) (i:=i) h
theorem q_appS:∀{a b:List Nat} {K L:List Nat→R} (_:∀k,Q (K k) (L k)),Q (appS a b K) (appS a b L)
 |[],_,_,_,h=>h _
 |x::a,b,_,_,h=>q_appS (a:=a) (b:=b) fun k=>h _
theorem q_fS {a:List Nat} {K L:List Nat→R} (h:∀k,Q (K k) (L k)):Q (fS a K) (fS a L):=by rw [fS_eq,fS_eq];exact h _
theorem q_strA:∀{a:AV} {K L:List Nat→R} (_:∀k,Q (K k) (L k)),Q (strA a K) (strA a L):=by
 intro a
 induction a with
 |ln=>intro K L h;exact h _
 |lc x y _ ih=>
  intro K L h
  refine q_onI hb fun k n=>q_bR hb ?_ (hb _)
  cases n with
  |ofNat n=>exact q_bR hb (ih fun k=>h _) (hb _)
  |negSucc n=>exact hb _
 |_=>intro K L h;exact hb _
theorem q_keyQ:∀{a x:AV} {K L:Bool→R} (_:∀k,Q (K k) (L k)),Q (keyQ a x K) (keyQ a x L):=by
 intro a
 induction a with
 |it k n=>intro x K L h;exact q_onI hb fun _ _=>q_bR hb (q_bR hb (h _) (h _)) (hb _)
 |st s=>intro x K L h;exact q_onS hb fun _=>q_bR hb (h _) (h _)
 |ln=>intro x K L h;exact q_bR hb (h _) (hb _)
 |lc y t _ ih=>intro x K L h;exact q_onL hb fun _ _=>q_onI hb fun _ _=>q_onI hb fun _ _=>q_bR hb (q_bR hb (ih h) (h _)) (hb _)
 |ag l ih=>intro x K L h;exact q_onA hb fun _=>ih h
 |_=>intro x K L h;exact hb _
theorem q_findM {x:AV}:∀{es:ML} {K L:AV→R} {N M:R} (_:∀k,Q (K k) (L k)) (_:Q N M),Q (findM es x K N) (findM es x L M):=by
 intro es
 induction es with
 |z=>intro K L N M _ h;exact h
 |c k v b t _=>intro K L N M h h';exact q_keyQ hb fun b=>q_bR hb (h _) (by apply_assumption<;>assumption)
theorem q_egL:∀{os:List Nat} {l m:AV} {K L:Bool→R} (_:∀k,Q (K k) (L k)),Q (egL os l m K) (egL os l m L)
 |[],_,_,_,_,h=>h _
 |_::os,_,_,_,_,h=>q_nthA hb fun _=>q_nthA hb fun _=>q_onI hb fun _ _=>q_onI hb fun _ _=>q_bR hb (q_bR hb (q_egL (os:=os) h) (h _)) (hb _)
theorem q_pk {mx:Bool} {m n:Int} {K L:Int→R} (h:∀k,Q (K k) (L k)):Q (pkI mx m n K) (pkI mx m n L):=by cases mx<;>exact q_bR hb (h _) (h _)
theorem q_kyA {kd:KD} {k:AV} {r r':R} (h:Q r r'):Q (kyA kd k r) (kyA kd k r'):=by
 cases kd with
 |i=>exact q_onI hb fun _ _=>h
 |s=>exact q_onS hb fun _=>h
 |a n=>exact q_onA hb fun _=>q_bR hb h (hb _)
section
variable {h h':Hp} (hv:∀a,Q (.v a h) (.v a h'))
include hv
theorem q_rI {k:IntKind} {n:Int}:Q (rI k n h) (rI k n h'):=by rw [rI_eq,rI_eq];exact hv _
theorem q_wrI {k:IntKind} {n:Int}:Q (wrI k n h) (wrI k n h'):=by rw [wrI_eq,wrI_eq];exact hv _
theorem q_rB {b:Bool}:Q (rB b h) (rB b h'):=by rw [rB_eq,rB_eq];exact hv _
theorem q_rN {n:Nat}:Q (rN n h) (rN n h'):=hv _
theorem q_natOp {f:Nat→Nat→Nat} {op:BinOp} {k:IntKind} {x y:Int}:Q (natOp f op k x y h) (natOp f op k x y h'):=by
 unfold natOp
 refine q_bR hb ?_ (q_rI hb hv)
 cases x<;>cases y<;>exact q_rI hb hv
theorem q_biI {op:BinOp} {k:IntKind} {x y:Int}:Q (biI op k x y h) (biI op k x y h'):=by
 cases op with
 |add=>exact q_wrI hb hv
 |sub=>exact q_wrI hb hv
 |mul=>exact q_wrI hb hv
 |quo=>refine q_bR hb (hb _) ?_;cases x<;>cases y<;>exact q_wrI hb hv
 |rem=>refine q_bR hb (hb _) ?_;cases x<;>cases y<;>exact q_rI hb hv
 |and=>exact q_natOp hb hv
 |or=>exact q_natOp hb hv
 |xor=>exact q_natOp hb hv
 |andNot=>exact q_rI hb hv
 |shl=>exact hb _
 |shr=>exact hb _
 |_=>exact q_rB hb hv
theorem q_biA {op:BinOp} {k j:IntKind} {x y:Int}:Q (biA op k j x y h) (biA op k j x y h'):=by
 have key:∀op',Q (bR (beqK k j) (biI op' k x y h) (.bad 62)) (bR (beqK k j) (biI op' k x y h') (.bad 62)):=fun op'=>q_bR hb (q_biI hb hv) (hb _)
 cases op with
 |shl=>exact q_onNt hb fun n=>q_wrI hb hv
 |shr=>refine q_onNt hb fun n=> ?_;cases x<;>exact q_rI hb hv
 |_=>exact key _
theorem q_btA {op:BinOp} {x y:List Nat}:Q (btA op x y h) (btA op x y h'):=by
 cases op<;>first|exact q_rB hb hv|exact q_bR hb (q_appS hb fun _=>hv _) (hb _)|exact hb _
theorem q_eeA {cl:Nat} {ng:Bool} {x y:AV}:Q (eeA cl ng x y h) (eeA cl ng x y h'):=
 q_bR hb (q_bR hb (q_rB hb hv) (hb _)) (q_bR hb (q_bR hb (q_rB hb hv) (hb _)) (q_bR hb (q_rB hb hv) (hb _)))
theorem q_slK {b:P} {q z l j m:Nat}:Q (slK b q z l j m h) (slK b q z l j m h'):=q_fN hb fun _=>q_fN hb fun _=>q_bR hb (hv _) (q_fN hb fun _=>hv _)
end
end
def Gr (e e':TE):Prop:=∀p,gE p e≠.no→gE p e'=gE p e
def Two (h h':Hp) (r r':R):Prop:=r.ok→∃a,r= .v a h∧r'= .v a h'
section
variable {e e':TE} {nx nx':P} {t:TV}
theorem two_bad {h h':Hp}:∀n,Two h h' (.bad n) (.bad n):=fun _ h=>False.elim h
theorem two_v {h h':Hp}:∀a,Two h h' (.v a h) (.v a h'):=fun a _=>⟨a,rfl,rfl⟩
theorem q_onK {h h':Hp} {x:P} (hg:Gr e e') {K L:P→Nat→Nat→Bool→Nat→AV→R} (hk:∀f g s m n c,gE x e= .bk f g s m n c→Two h h' (K f g s m n c) (L f g s m n c)):Two h h' (onK (gE x e) K) (onK (gE x e') L):=by
 cases hx:gE x e with
 |bk f g s m n c=>
  rw [hg x (by rw [hx];simp),hx]
  exact hk _ _ _ _ _ _ hx
 |_=>exact fun hh=>False.elim hh
theorem q_rdK {h h':Hp} {x:P} (hg:Gr e e') {K L:Nat→AV→R} (hk:∀n c,Two h h' (K n c) (L n c)):Two h h' (rdK x (.mk e nx) K) (rdK x (.mk e' nx') L):=by
 refine q_onK hg fun f g s m n c _=> ?_
 cases s with
 |zero=>exact hk _ _
 |succ s=>exact q_onK hg fun _ g _ _ _ _ _=>q_bR two_bad (hk _ _) (two_bad _)
theorem q_mapK {h h':Hp} {x:AV} (hg:Gr e e') {K L:ML→Nat→R} (hk:∀n c,Two h h' (K n c) (L n c)):Two h h' (mapK x (.mk e nx) K) (mapK x (.mk e' nx') L):=by
 cases x with
 |mp r=>
  show Two h h' (onMp (gE r e) K) (onMp (gE r e') L)
  cases hx:gE r e with
  |mp es c=>rw [hg r (by rw [hx];simp),hx];exact hk _ _
  |_=>exact fun hh=>False.elim hh
 |mn=>exact hk _ _
 |_=>exact fun hh=>False.elim hh
theorem two_ev {x:XO} (hc:clX x=0∨clX x=2) (hg:Gr e e'):Two (.mk e nx) (.mk e' nx') (evX x t (.mk e nx)) (evX x t (.mk e' nx')):=by
 have hb:= @two_bad (.mk e nx) (.mk e' nx')
 have hv:= @two_v (.mk e nx) (.mk e' nx')
 cases x with
 |mv x=>exact q_fV hb fun _=>hv _
 |pk c a b=>exact q_onB hb fun c=>q_bR hb (q_fV hb fun _=>hv _) (q_fV hb fun _=>hv _)
 |bu z ps=>exact q_fillP hb fun _=>hv _
 |ld w x=>exact q_onP hb fun b o=>q_rdK hg fun n c=>q_ldC hb fun v=>q_fV hb fun _=>hv _
 |nc x=>exact q_bR hb (hb _) (q_fV hb fun _=>hv _)
 |bi op x y=>exact q_onI hb fun _ _=>q_onI hb fun _ _=>q_biA hb hv
 |bt op x y=>exact q_onS hb fun _=>q_onS hb fun _=>q_btA hb hv
 |ee cl ng x y=>exact q_eeA hb hv
 |un op x=>
  cases op with
  |neg=>exact q_onI hb fun _ _=>q_wrI hb hv
  |xor=>exact q_onI hb fun _ _=>q_rI hb hv
  |not=>exact q_onB hb fun _=>q_rB hb hv
  |_=>exact hb _
 |ci k x=>exact q_onI hb fun _ _=>q_wrI hb hv
 |cs x=>exact q_onSl hb (fun b o n=>q_rdK hg fun _ c=>q_takeA hb fun l=>q_strA hb fun s=>hv _) (hv _)
 |mi u x=>exact q_fV hb fun _=>hv _
 |mf f x y=>exact q_evL hb fun _=>q_evL hb fun _=>hv _
 |sc z x lo hi mx=>
  show Two _ _ (scA z lo hi mx t (.mk e nx) (evO x t)) (scA z lo hi mx t (.mk e' nx') (evO x t))
  cases evO x t with
  |sl b o n c=>exact q_evN hb fun _=>q_evN hb fun _=>q_evN hb fun _=>q_bR hb (q_slK hb hv) (hb _)
  |su b o n y=>
   refine q_bR hb (q_evN hb fun _=>q_evN hb fun _=>q_onK hg fun _ _ _ _ _ _ _=> ?_) (hb _)
   cases mx with
   |z=>exact q_bR hb (q_bR hb (q_fN hb fun _=>q_fN hb fun _=>hv _) (hv _)) (hb _)
   |s m=>exact q_onI hb fun _ _=>q_onNt hb fun _=>q_bR hb (q_slK hb hv) (hb _)
  |sn=>exact q_evN hb fun _=>q_evN hb fun _=>q_evN hb fun _=>q_bR hb (hv _) (hb _)
  |se=>
   refine q_evN hb fun _=>q_evN hb fun _=> ?_
   cases mx with
   |z=>exact q_bR hb (hv _) (hb _)
   |s m=>exact hb _
  |_=>exact hb _
 |sa n z x lo hi mx=>exact q_onP hb fun _ _=>q_evN hb fun _=>q_evN hb fun _=>q_evN hb fun _=>q_bR hb (q_slK hb hv) (hb _)
 |fa o x=>exact q_onP hb fun _ _=>q_fN hb fun _=>hv _
 |fi o w x=>exact q_onA hb fun _=>q_ldC hb fun _=>q_fV hb fun _=>hv _
 |ia z x i=>exact q_onI hb fun _ _=>q_onNt hb fun _=>q_onSl hb (fun _ _ _=>q_bR hb (q_fN hb fun _=>hv _) (hb _)) (hb _)
 |iy n z x i=>exact q_onI hb fun _ _=>q_onNt hb fun _=>q_onP hb fun _ _=>q_bR hb (q_fN hb fun _=>hv _) (hb _)
 |ih x i=>exact q_onI hb fun _ _=>q_onNt hb fun _=>q_onS hb fun _=>q_nthS hb fun _=>hv _
 |ix n z w x i=>exact q_onI hb fun _ _=>q_onNt hb fun _=>q_onA hb fun _=>q_bR hb (q_ldC hb fun _=>q_fV hb fun _=>hv _) (hb _)
 |lk kd z ok m k=>
  refine q_kyA hb (q_mapK hg fun es _=>q_findM hb (fun v=>q_fV hb fun _=> ?_) ?_)<;>cases ok<;>exact hv _
 |et x i=>exact q_onT hb fun _=>q_nthA hb fun _=>q_fV hb fun _=>hv _
 |le x=>
  show Two _ _ (lnA (evO x t) (.mk e nx)) (lnA (evO x t) (.mk e' nx'))
  cases evO x t<;>first|exact q_rN hb hv|exact hb _
 |lm x=>exact q_mapK hg fun _ _=>q_rN hb hv
 |cp x=>exact q_onS3 hb (fun _ _ _ _=>q_rN hb hv) (fun _ _ _ _=>hb _) (q_rN hb hv)
 |m2 mx x y=>cases mx<;>exact q_onI hb fun _ _=>q_onI hb fun _ _=>q_bR hb (hv _) (hv _)
 |ss x lo hi mx=>
  refine q_onS hb fun _=>q_evN hb fun _=>q_evN hb fun _=> ?_
  cases mx with
  |z=>exact q_bR hb (q_takeS hb fun _=>q_fS hb fun _=>hv _) (hb _)
  |s m=>exact hb _
 |sv x=>exact q_onS hb fun _=>hv _
 |ls x=>exact q_onS hb fun _=>q_rN hb hv
 |eg ng os x y=>exact q_onA hb fun _=>q_onA hb fun _=>q_egL hb fun _=>q_rB hb hv
 |m3 mx x y z=>exact q_onI hb fun _ _=>q_onI hb fun _ _=>q_onI hb fun _ _=>q_pk hb fun _=>q_pk hb fun _=>hv _
 |_=>rcases hc with hc|hc<;>cases hc
theorem keeps_ev {x:XO} (hc:clX x=0∨clX x=2) (hok:(evX x t (.mk e nx)).ok):∃a,evX x t (.mk e nx)= .v a (.mk e nx):=by
 obtain ⟨a,h1,_⟩:=two_ev (nx':=nx) hc (fun _ _=>rfl:Gr e e) hok
 exact ⟨a,h1⟩
def New (e:TE) (nx:P) (r:R):Prop:=r.ok→∃a x,r= .v a (.mk (putE nx e x) nx.succ)∧(∀b:Bk,x= .bk b.f b.g b.s b.m b.n b.c→b.f=nx∧b.s=0∧b.m=false)∧∀st pe t ps as bd,x≠.lp st pe t ps as bd
theorem new_B {n:Nat} {c:AV} (f:P→AV):New e nx (newB n c (.mk e nx) fun q h=>R.v (f q) h):=fun _=>by
 rw [newB_eq]
 refine ⟨f nx,_,rfl,fun b hb=> ?_,fun _ _ _ _ _ _ hh=>by cases hh⟩
 simp only [Ent.bk.injEq] at hb
 exact ⟨hb.1.symm,hb.2.2.1.symm,hb.2.2.2.1.symm⟩
theorem new_E (f:P→AV):New e nx (newE (.mp .z 0) (.mk e nx) fun q h=>R.v (f q) h):=fun _=>by
 rw [newE_eq]
 exact ⟨f nx,_,rfl,fun b hb=>(by cases hb),fun _ _ _ _ _ _ hh=>by cases hh⟩
theorem new_ev {x:XO} (hc:clX x=1):New e nx (evX x t (.mk e nx)):=by
 have hb:∀n,(fun r _=>New e nx r) (R.bad n) (R.bad n):=fun n h=>False.elim h
 cases x with
 |al n z=>exact new_B fun q=> .pt q 0
 |bx x=>
  show New e nx (takeA (cellsA (evO x t)) (lenA (cellsA (evO x t))) fun l=>newB (lenA (cellsA (evO x t))) l (.mk e nx) fun q h=>R.v (.pt q 0) h)
  exact q_takeA (Q:=fun r _=>New e nx r) hb (L:=fun _=> .bad 0) fun _=>new_B fun q=> .pt q 0
 |bs n l z ps=>exact q_fillP (Q:=fun r _=>New e nx r) hb (L:=fun _=> .bad 0) fun _=>new_B fun q=> .sl q 0 l l
 |mm x=>
  cases x with
  |z=>exact new_E fun q=> .mp q
  |s x=>exact q_onI (Q:=fun r _=>New e nx r) hb (L:=fun _ _=> .bad 0) fun _ _=>new_E fun q=> .mp q
 |ms z c l cp=>
  refine q_onI (Q:=fun r _=>New e nx r) hb (L:=fun _ _=> .bad 0) fun _ _=>q_onI (Q:=fun r _=>New e nx r) hb (L:=fun _ _=> .bad 0) fun _ _=>q_onNt (Q:=fun r _=>New e nx r) hb (L:=fun _=> .bad 0) fun l=>q_onNt (Q:=fun r _=>New e nx r) hb (L:=fun _=> .bad 0) fun cn=> ?_
  rw [bR_eq]
  split
  ·refine q_repA (Q:=fun r _=>New e nx r) hb (L:=fun _=> .bad 0) fun cs=> ?_
   show New e nx (newB (Nat.mul cn z) cs (.mk e nx) fun q h=>R.v (.sl q 0 l cn) h)
   exact new_B fun q=> .sl q 0 l cn
  exact hb 75
 |_=>cases hc
end
end Go.Ev
namespace Go.Ev
open Classical
section
variable {G:Program} {φ:Phi} {e:TE} {nx:P} {w:World} {t:TV} {ρ:Operand→Value} {o:Oper}
theorem op_good (h:Rel φ e nx w) (hod:∀y∈o.op.operands,okOd y=true→OD φ t ρ y) (hok:(evX (cOpr G o) t (.mk e nx)).ok):Good G φ e nx w ((execOp ρ o).run G w) (evX (cOpr G o) t (.mk e nx)):=by
 cases op_out (G:=G) hod with
 |pu _ f=>
  obtain ⟨a,v,h1,h2,h3⟩:=f _ hok
  rw [h1]
  exact ⟨φ,v,w,Stp.refl h,h2,.inl (h3 w)⟩
 |al _ f=>exact al_good h (f e nx hok)
 |rd _ f=>
  obtain ⟨a,v,h1,h2,h3⟩:=f e nx w h hok
  rw [h1]
  exact ⟨φ,v,w,Stp.refl h,h2,.inl h3⟩
 |ef _ f=>exact f e nx w h hok
def WF (F:Fence):Prop:=F=Fence.wide∨∃l,F=Fence.wide.inRound l
theorem WF.fn {F:Fence} (h:WF F) (f:FuncId):F.fn f:=by rcases h with rfl|⟨l,rfl⟩<;>exact trivial
theorem WF.depth {F:Fence} (h:WF F):¬F.depth.isSome=true:=by rcases h with rfl|⟨l,rfl⟩<;>simp [Fence.wide,Fence.inRound]
def PostC (φ:Phi) (e:TE) (nx:P) (w:World) (y:Y):Ending→World→Prop
 | .returned v,w'=>∃φ' a e' nx',y= .re a (.mk e' nx')∧vr φ' a v∧Stp φ e nx w φ' e' nx' w'
 |_,_=>False
structure CfOk (G:Program) (cf:CF):Prop where
 f:∀f x e nx y,cf (.f f) x (.mk e nx)=y→y.ok→∀φ w (args:Array Value),Rel φ e nx w→lr φ x args.toList→(callFunc f args).run G w= .ok (.enter f args) w∧CallsIn Fence.wide 0 G f args w (PostC φ e nx w y)
 y:∀r x e nx y,cf (.y r) x (.mk e nx)=y→y.ok→∀φ w (args:Array Value) L,Rel φ e nx w→lr φ x args.toList→φ r=some L→
  ∃fn tmps as bd,(Instr.yield L.B args).run G w= .ok (.round L.B fn tmps as bd) w∧RoundIn Fence.wide 0 G L.B fn tmps as bd w (PostC φ e nx w y)
theorem onY_ok {y:Y} {K:AV→Hp→X} {x:X} (h:onY y K=x) (hx:x.ok):∃v h',y= .re v h'∧K v h'=x:=by
 cases y with
 |bad n=>subst h;exact False.elim hx
 |re v h'=>exact ⟨v,h',rfl,h⟩
theorem bX_ok {b:Bool} {x y:X} {n:Nat} (h:bX b x (.bad n)=y) (hy:y.ok):b=true∧x=y:=by
 cases b
 ·subst h;exact False.elim hy
 exact ⟨rfl,h⟩
theorem op_wp {cf:CF} (hcf:CfOk G cf) {F:Fence} (hF:WF F) {n:Nat} {a:Act} {next:Act→World→Prop} {Q:Exit→Act→World→Prop} {d:MP} {ck:CL} {ds:DS} {K:KX} {x:X}
    (h:Rel φ e nx w) (hod:∀y∈o.op.operands,okOd y=true→OD φ t a.eval y) (hr:stepR (evX (cOpr G o) t (.mk e nx)) cf d ck t ds K=x) (hx:x.ok)
    (hn:∀φ' av e' nx' v w',Stp φ e nx w φ' e' nx' w'→vr φ' av v→(putD d t av fun t=>chkC ck t (.mk e' nx') (K t ds (.mk e' nx')))=x→next (a.put o.dst v) w'):o.wpIn F n G a w next Q:=by
 refine ⟨fun f _=>hF.fn f,?_⟩
 have hok:(evX (cOpr G o) t (.mk e nx)).ok:=by
  cases hev:evX (cOpr G o) t (.mk e nx) with
  |bad m=>rw [hev] at hr;rw [←hr] at hx;exact False.elim hx
  |_=>trivial
 have hdef:∀c,o.op≠.defer c:=fun c hc=>by
  have:cOpr G o= .bad 130∨cOpr G o= .bad 141:=by
   unfold cOpr
   split
   ·left;unfold cOp;rw [hc]
   right;rfl
  rcases this with hb|hb<;>rw [hb] at hok<;>exact hok
 have hg:=op_good (G:=G) h hod hok
 rw [Oper.semAt_eq _ _ _ hdef]
 cases hev:evX (cOpr G o) t (.mk e nx) with
 |bad m=>rw [hev] at hok;exact False.elim hok
 |v av h'=>
  rw [hev] at hg hr
  obtain ⟨e',nx'⟩:=h'
  obtain ⟨φ',v,w',h1,h2,h3⟩:=hg
  have hK:=hn φ' av e' nx' v w' h1 h2 hr
  rcases h3 with h3|⟨rfl,h3⟩
  ·rw [h3];exact hK
  rw [h3];exact hK
 |call f xs h'=>
  rw [hev] at hg hr
  obtain ⟨rfl,args,h1,h2⟩:=hg
  obtain ⟨v,h',e1,e2⟩:=onY_ok (show onY (cf (.f f) xs (.mk e nx)) _=x from hr) hx
  obtain ⟨c1,c2⟩:=hcf.f f xs e nx _ e1 trivial φ w args h h1
  rw [h2,c1]
  refine ⟨fun hh=>absurd hh hF.depth,?_⟩
  have c3:CallsIn F (n-1) G f args w (PostC φ e nx w (.re v h')):=by
   have c4:=c2.more (Nat.zero_le (n-1))
   rcases hF with rfl|⟨l,rfl⟩
   ·exact c4
   exact CallsIn.inRound l c4
  refine c3.mono fun en w' hp=> ?_
  cases en with
  |returned u=>
   obtain ⟨φ',av,e',nx',g1,g2,g3⟩:=hp
   cases g1
   exact hn φ' v e' nx' u w' g3 g2 e2
  |panicked c=>exact False.elim hp
  |outgrown=>exact False.elim hp
 |yl r xs h'=>
  rw [hev] at hg hr
  obtain ⟨rfl,L,args,hL,h1,h2⟩:=hg
  obtain ⟨v,h',e1,e2⟩:=onY_ok (show onY (cf (.y r) xs (.mk e nx)) _=x from hr) hx
  obtain ⟨fn,tmps,as,bd,c1,c2⟩:=hcf.y r xs e nx _ e1 trivial φ w args L h h1 hL
  rw [h2,c1]
  refine ⟨fun hh=>absurd hh hF.depth,?_⟩
  have c3:RoundIn F (n-1) G L.B fn tmps as bd w (PostC φ e nx w (.re v h')):=by
   have c4:RoundIn Fence.wide (n-1) G L.B fn tmps as bd w (PostC φ e nx w (.re v h')):=⟨c2.1,fun c cs hroom=>c2.2 c cs (Fence.room_le hroom (by omega))⟩
   rcases hF with rfl|⟨l,rfl⟩
   ·exact c4
   exact c4
  refine c3.mono fun en w' hp=> ?_
  cases en with
  |returned u=>
   obtain ⟨φ',av,e',nx',g1,g2,g3⟩:=hp
   cases g1
   exact hn φ' v e' nx' u w' g3 g2 e2
  |panicked c=>exact False.elim hp
  |outgrown=>exact False.elim hp
theorem put_tmps (a:Act) (d:Tmp) (v:Value):(a.put (some d) v).tmps=a.tmps.setIfInBounds d v:=rfl
theorem tr_put {tm:Array Value} {d:Nat} {av:AV} {v:Value} (ht:TR φ t tm) (hv:vr φ av v):TR φ (setV (toS d) t av) (tm.setIfInBounds d v):=fun p=>by
 obtain ⟨h1,h2⟩:=ht p
 refine ⟨?_,?_⟩
 ·rw [has_setV];simpa using h1
 by_cases hp:toS d=p
 ·subst hp
  rw [n_toS] at h1 h2 ⊢
  by_cases hh:hasV (toS d) t
  ·rw [gV_setV_same _ _ _ hh]
   have:=h1.1 hh
   simp [Array.getD_eq_getD_getElem?,this];exact hv
  rw [gV_no _ _ (by rw [has_setV];exact hh)]
  have:¬d<tm.size:=fun hd=>hh (h1.2 hd)
  simp [Array.getD_eq_getD_getElem?,this]
  exact ⟨#[],rfl,rfl⟩
 rw [gV_setV_other _ _ _ _ hp]
 have hne:d≠p.n:=fun hd=>hp (by rw [hd];exact toS_n p)
 have:(tm.setIfInBounds d v).getD p.n undef=tm.getD p.n undef:=by
  simp [Array.getD_eq_getD_getElem?,Array.getElem?_setIfInBounds_ne hne]
 rw [this];exact h2
theorem putD_eq {d:Option Tmp} {av:AV} {K:TV→X}:putD (cDst d) t av K=K (match d with|none=>t|some d=>setV (toS d) t av):=by
 cases d with
 |none=>rfl
 |some d=>exact sV_eq _ _ _ _
theorem tr_putD {a:Act} {d:Option Tmp} {av:AV} {v:Value} (ht:TR φ t a.tmps) (hv:vr φ av v):TR φ (match d with|none=>t|some d=>setV (toS d) t av) (a.put d v).tmps:=by
 cases d with
 |none=>exact ht
 |some d=>rw [put_tmps];exact tr_put ht hv
theorem vr_undef:vr φ undefA undef:=⟨#[],rfl,rfl⟩
theorem want_ok {ops:Array Oper} {g:Option (Nat×Bool)} {gd:Gd} {tm:Array Value} (hg:cGd ops g=some gd) (ht:∀d,(∃j b,g=some (j,b)∧(ops[j]?).bind (·.dst)=some d)→(hasV (toS d) t↔d<tm.size)∧vr φ (gV (toS d) t) (tm.getD d undef)) (ho:o.guard=g):
    Region.wanted o (yielded ops tm)=wantG gd t:=by
 unfold Region.wanted
 rw [ho]
 cases g with
 |none=>cases hg;rfl
 |some p=>
  obtain ⟨j,b⟩:=p
  simp only [cGd,Option.map_eq_some_iff] at hg
  obtain ⟨d,hd,rfl⟩:=hg
  obtain ⟨h1,h2⟩:=ht d ⟨j,b,rfl,hd⟩
  show (yielded ops tm j==some b)=wantB (gV (toS d) t) b
  have hy:yielded ops tm j=match tm[d]? with|some (.bool b)=>some b|_=>none:=by
   unfold yielded;rw [hd];show (match tm[d]? with|some (.bool b)=>some b|_=>none)=_
   cases tm[d]? with
   |none=>rfl
   |some v=>cases v<;>rfl
  rw [hy]
  by_cases hlt:d<tm.size
  ·have e1:tm[d]? =some (tm.getD d undef):=by simp [Array.getD_eq_getD_getElem?,hlt]
   rw [e1]
   generalize tm.getD d undef=v at h2
   generalize gV (toS d) t=av at h2
   cases av with
   |bo c=>have:v=_:=h2;subst this;cases b<;>cases c<;>rfl
   |ln=>exact False.elim h2
   |lc _ _=>exact False.elim h2
   |st s=>obtain ⟨_,rfl⟩:=h2;cases b<;>rfl
   |pt q i=>obtain ⟨_,_,rfl⟩:=h2;cases b<;>rfl
   |sl q i n c=>obtain ⟨_,_,rfl⟩:=h2;cases b<;>rfl
   |su q i n c=>obtain ⟨_,_,_,_,_,_,rfl⟩:=h2;cases b<;>rfl
   |se=>obtain ⟨_,_,rfl⟩:=h2;cases b<;>rfl
   |mp q=>obtain ⟨_,_,rfl⟩:=h2;cases b<;>rfl
   |yl q=>obtain ⟨_,_,rfl⟩:=h2;cases b<;>rfl
   |fn f x y=>obtain ⟨_,_,rfl,_⟩:=h2;cases b<;>rfl
   |fc u x=>obtain ⟨_,rfl,_⟩:=h2;cases b<;>rfl
   |ag l=>obtain ⟨_,rfl,_⟩:=h2;cases b<;>rfl
   |tu l=>obtain ⟨_,rfl,_⟩:=h2;cases b<;>rfl
   |_=>have:v=_:=h2;subst this;cases b<;>rfl
  rw [gV_no _ _ fun hh=>hlt (h1.1 hh)]
  simp [hlt]
  cases b<;>rfl
end
end Go.Ev
namespace Go.Ev
open Classical
section
variable {G:Program} {φ:Phi} {e:TE} {nx:P} {w:World} {t:TV} {o:Oper}
theorem od_act {a:Act} (ht:TR φ t a.tmps) {y:Operand} (h:okOd y=true):OD φ t a.eval y:=by
 cases y with
 |tmp i=>
  have:=(ht (toS i)).2
  rw [n_toS] at this
  exact this
 |const v=>
  have h':(ofV v).isSome=true:=h
  obtain ⟨a,ha⟩:=Option.isSome_iff_exists.1 h'
  show vr φ (evO (cOd (.const v)) t) v
  have:cOd (.const v)= .k a:=by simp [cOd,ha]
  rw [this]
  exact ofV_ok ha φ
 |global g=>exact rfl
 |func f=>exact ⟨#[],#[],rfl,rfl,rfl⟩
theorem want_tr {ops:Array Oper} {gd:Gd} {a:Act} (hg:cGd ops o.guard=some gd) (ht:TR φ t a.tmps):Region.wanted o (yielded ops a.tmps)=wantG gd t:=
 want_ok (φ:=φ) hg (fun d _=>by have:=ht (toS d);rw [n_toS] at this;exact this) rfl
def NoX (φ:Phi) (e:TE) (nx:P) (w:World) (ds:DS) (x:X) (df:List Deferred) (a:Act) (w':World):Prop:=
 ∃φ' t' e' nx',x= .no t' ds (.mk e' nx')∧TR φ' t' a.tmps∧Stp φ e nx w φ' e' nx' w'∧a.defers=df
theorem put_defers (a:Act) (d:Option Tmp) (v:Value):(a.put d v).defers=a.defers:=by cases d<;>rfl
theorem seq_ok {cf:CF} (hcf:CfOk G cf) {F:Fence} (hF:WF F) {n:Nat} {ops:Array Oper} {Q:Exit→Act→World→Prop} {ds:DS} {x:X} {φ0:Phi} {e0:TE} {nx0:P} {w0:World} {df:List Deferred} (hx:x.ok)
    (hQ:∀a w',NoX φ0 e0 nx0 w0 ds x df a w'→Q .normal a w'):∀(l:List Oper) (k:Nat) (φ:Phi) (e:TE) (nx:P) (w:World) (t:TV) (a:Act),ops.toList.drop k=l→Stp φ0 e0 nx0 w0 φ e nx w→TR φ t a.tmps→a.defers=df→
     runS (seqS G ops l) cf t ds (.mk e nx)=x→wpOpsIn F n G ops Q (List.range' k l.length) a w
 |[],k,φ,e,nx,w,t,a,hl,hs,ht,hd,hr=>hQ a w ⟨φ,t,e,nx,hr.symm,ht,hs,hd⟩
 |o::l,k,φ,e,nx,w,t,a,hl,hs,ht,hd,hr=>by
  have hk:ops[k]? =some o:=by
   have:=congrArg List.head? hl
   rw [List.head?_drop] at this
   simpa using this
  have hl':ops.toList.drop (k+1)=l:=by
   rw [←List.drop_drop,hl];rfl
  rw [List.length_cons,List.range'_succ,wpOpsIn]
  simp only [hk]
  have hs':seqS G ops (o::l)=match cGd ops o.guard with|some g=> .c g (cOpr G o) (cDst o.dst) .z (seqS G ops l)|none=> .bad 131:=rfl
  rw [hs'] at hr
  cases hg:cGd ops o.guard with
  |none=>rw [hg] at hr;rw [←hr] at hx;exact False.elim hx
  |some g=>
   rw [hg] at hr
   have hr':bX (wantG g t) (stepR (evX (cOpr G o) t (.mk e nx)) cf (cDst o.dst) .z t ds (runS (seqS G ops l) cf)) (putD (cDst o.dst) t undefA fun t=>runS (seqS G ops l) cf t ds (.mk e nx))=x:=hr
   have hw:=want_tr (o:=o) hg ht
   rw [bX_eq] at hr'
   split at hr'
   ·rename_i hwt
    rw [if_pos (hw.trans hwt)]
    refine op_wp hcf hF hs.rel (fun y _ hy=>od_act ht hy) hr' hx fun φ' av e' nx' v w' h1 h2 h3=> ?_
    rw [putD_eq] at h3
    exact seq_ok hcf hF hx hQ l (k+1) φ' e' nx' w' _ _ hl' (hs.trans h1) (tr_putD (fun p=>⟨(ht p).1,vr_mono (Stp.le hs.rel h1) (ht p).2⟩) h2) (by rw [put_defers];exact hd) h3
   rename_i hwt
   rw [if_neg (by rw [hw];exact hwt)]
   rw [putD_eq] at hr'
   exact ⟨fun f _=>hF.fn f,seq_ok hcf hF hx hQ l (k+1) φ e nx w _ _ hl' hs (tr_putD ht vr_undef) (by rw [put_defers];exact hd) hr'⟩
theorem region_plain {cf:CF} (hcf:CfOk G cf) {F:Fence} (hF:WF F) {n id:Nat} {ops:Array Oper} {Q:Exit→Act→World→Prop} {ds:DS} {x:X} {a:Act} (h:Rel φ e nx w) (ht:TR φ t a.tmps) (hr:runS (stepsOf G ops false) cf t ds (.mk e nx)=x) (hx:x.ok)
    (hQ:∀a' w',NoX φ e nx w ds x a.defers a' w'→Q .normal a' w'):(Code.region id ops false).wpIn F n G Q a w:=by
 refine wpIn_region ?_
 have:=seq_ok hcf hF (ops:=ops) (n:=n) hx hQ ops.toList 0 φ e nx w t a (by simp) (Stp.refl h) ht rfl hr
 rw [List.range_eq_range']
 simpa using this
end
end Go.Ev
namespace Go.Ev
open Classical
theorem beqb_true {b c:Bool} (h:beqb b c=true):b=c:=by cases b<;>cases c<;>first|rfl|cases h
theorem bB_true {b x:Bool} (h:bB b x false=true):b=true∧x=true:=by cases b<;>first|exact ⟨rfl,h⟩|cases h
theorem iEq_true {x y:Int} (h:iEq x y=true):x=y:=by rw [iEq_eq] at h;exact eq_of_beq h
theorem beq_true {x y:Nat} (h:Nat.beq x y=true):x=y:=Nat.eq_of_beq_eq_true h
theorem beqV_eq:∀{a b:AV},beqV a b=true→a=b:=by
 intro a
 induction a with
 |ln=>intro b h;cases b<;>first|exact Bool.noConfusion (show false=true from h)|rfl
 |lc x y ih1 ih2=>intro b h;cases b<;>first|exact Bool.noConfusion (show false=true from h)|(obtain ⟨h1,h2⟩:=bB_true h;rw [ih1 h1,ih2 h2])
 |bo c=>intro b h;cases b<;>first|exact Bool.noConfusion (show false=true from h)|(rw [beqb_true h])
 |it k n=>intro b h;cases b<;>first|exact Bool.noConfusion (show false=true from h)|(obtain ⟨h1,h2⟩:=bB_true h;rw [iEq_true h1,beqK_eq h2])
 |st s=>intro b h;cases b<;>first|exact Bool.noConfusion (show false=true from h)|(rw [beqS_eq.1 h])
 |pt p o=>intro b h;cases b<;>first|exact Bool.noConfusion (show false=true from h)|(obtain ⟨h1,h2⟩:=bB_true h;rw [beq_true h1,beqP_eq h2])
 |pn=>intro b h;cases b<;>first|exact Bool.noConfusion (show false=true from h)|rfl
 |sl p o n c=>intro b h;cases b<;>first|exact Bool.noConfusion (show false=true from h)|(obtain ⟨h1,h2⟩:=bB_true h;obtain ⟨h3,h4⟩:=bB_true h2;obtain ⟨h5,h6⟩:=bB_true h4;rw [beq_true h1,beq_true h3,beq_true h5,beqP_eq h6])
 |su p o n c=>intro b h;cases b<;>first|exact Bool.noConfusion (show false=true from h)|(obtain ⟨h1,h2⟩:=bB_true h;obtain ⟨h3,h4⟩:=bB_true h2;obtain ⟨h5,h6⟩:=bB_true h4;rw [beq_true h1,beq_true h3,beq_true h5,beqP_eq h6])
 |sn=>intro b h;cases b<;>first|exact Bool.noConfusion (show false=true from h)|rfl
 |mp r=>intro b h;cases b<;>first|exact Bool.noConfusion (show false=true from h)|(rw [beqP_eq h])
 |mn=>intro b h;cases b<;>first|exact Bool.noConfusion (show false=true from h)|rfl
 |fc u x ih=>intro b h;cases b<;>first|exact Bool.noConfusion (show false=true from h)|(obtain ⟨h1,h2⟩:=bB_true h;rw [beq_true h1,ih h2])
 |fcn=>intro b h;cases b<;>first|exact Bool.noConfusion (show false=true from h)|rfl
 |ag l ih=>intro b h;cases b<;>first|exact Bool.noConfusion (show false=true from h)|(rw [ih h])
 |tu l ih=>intro b h;cases b<;>first|exact Bool.noConfusion (show false=true from h)|(rw [ih h])
 |_=>intro b h;exact Bool.noConfusion (show false=true from h)
def Edges (S:Nat→Prop) (o:Oper):Prop:=∀e∈o.after,Region.binds .any e=true→S e.on
def Closed (ops:Array Oper) (S:Nat→Prop):Prop:=∀i o,S i→ops[i]? =some o→Edges S o
theorem mask_bit (acc:Array Nat) (j:Nat):∀(l:List Edge) (s:Nat),(l.foldl (fun s e=>if Region.binds .any e then s ||| 2 ^ e.on ||| acc.getD e.on 0 else s) s).testBit j=true→
    s.testBit j=true∨∃e∈l,Region.binds .any e=true∧(e.on=j∨(acc.getD e.on 0).testBit j=true)
 |[],s,h=> .inl h
 |e::l,s,h=>by
  rw [List.foldl_cons] at h
  rcases mask_bit acc j l _ h with h1|⟨e',h1,h2⟩
  ·split at h1
   ·rename_i hb
    rw [Nat.testBit_or,Nat.testBit_or,Nat.testBit_two_pow] at h1
    simp only [Bool.or_eq_true,decide_eq_true_eq] at h1
    rcases h1 with (h1|h1)|h1
    ·exact .inl h1
    ·exact .inr ⟨e,by simp,hb,.inl h1⟩
    exact .inr ⟨e,by simp,hb,.inr h1⟩
   exact .inl h1
  exact .inr ⟨e',by simp [h1],h2⟩
theorem getD_push (acc:Array Nat) (x i:Nat):(acc.push x).getD i 0=if i=acc.size then x else acc.getD i 0:=by
 rw [Array.getD_eq_getD_getElem?,Array.getElem?_push,Array.getD_eq_getD_getElem?]
 split<;>rfl
theorem before_ok (ops:Array Oper):∀(l:List Oper) (acc:Array Nat) (k:Nat),ops.toList.drop k=l→acc.size=k→
    (∀i,i<k→∀S,Closed ops S→∀o,ops[i]? =some o→Edges S o→∀j,(acc.getD i 0).testBit j=true→S j)→
    ∀i S,Closed ops S→∀o,ops[i]? =some o→Edges S o→∀j,((l.foldl (fun acc o=>acc.push (o.after.foldl (fun s e=>if Region.binds .any e then s ||| 2 ^ e.on ||| acc.getD e.on 0 else s) 0)) acc).getD i 0).testBit j=true→S j
 |[],acc,k,hl,hk,hacc=>fun i S hS o ho he j hj=>by
  by_cases hi:i<k
  ·exact hacc i hi S hS o ho he j hj
  rw [show ([].foldl _ acc:Array Nat)=acc from rfl] at hj
  simp [Array.getD_eq_getD_getElem?,Array.getElem?_eq_none (show acc.size≤i by omega)] at hj
 |o::l,acc,k,hl,hk,hacc=>by
  have hok:ops[k]? =some o:=by
   have:=congrArg List.head? hl
   rw [List.head?_drop] at this
   simpa using this
  rw [List.foldl_cons]
  refine before_ok ops l _ (k+1) (by rw [←List.drop_drop,hl];rfl) (by simp [hk]) ?_
  intro i hi S hS o' ho' he j hj
  by_cases hik:i<k
  ·rw [getD_push,if_neg (by omega)] at hj
   exact hacc i hik S hS o' ho' he j hj
  have hik':i=k:=by omega
  subst hik'
  have:o=o':=Option.some.inj (hok.symm.trans ho')
  subst this
  rw [getD_push,if_pos hk.symm] at hj
  rw [←Array.foldl_toList] at hj
  rcases mask_bit acc j _ _ hj with h1|⟨ed,h1,h2,h3⟩
  ·simp at h1
  have hS1:S ed.on:=he ed (by simpa using h1) h2
  rcases h3 with h3|h3
  ·rw [←h3];exact hS1
  by_cases hlt:ed.on<i
  ·cases hoe:ops[ed.on]? with
   |none=>
    have:ops[i]? =none:=Array.getElem?_eq_none (by have:=Array.getElem?_eq_none_iff.1 hoe;omega)
    rw [this] at hok;cases hok
   |some oe=>exact hacc ed.on hlt S hS oe hoe (hS _ _ hS1 hoe) j h3
  simp [Array.getD_eq_getD_getElem?,Array.getElem?_eq_none (show acc.size≤ed.on by omega)] at h3
theorem anc {ops:Array Oper} {S:Nat→Prop} (hS:Closed ops S) {i j:Nat} {o:Oper} (ho:ops[i]? =some o) (he:Edges S o) (hj:((Region.before ops).getD i 0).testBit j=true):S j:=by
 refine before_ok ops ops.toList #[] 0 (by simp) rfl (fun i hi=>absurd hi (by omega)) i S hS o ho he j ?_
 unfold Region.before at hj
 rw [←Array.foldl_toList] at hj
 exact hj
theorem mem_ready {ops:Array Oper} {L:Array Bool} (hs:L.size=ops.size) {i:Nat}:i∈Region.ready .any ops L↔L.getD i false=false∧∃o,ops[i]? =some o∧Edges (fun j=>L.getD j false=true) o:=by
 unfold Region.ready
 rw [List.mem_filter,List.mem_range]
 constructor
 ·rintro ⟨h1,h2⟩
  rw [Bool.and_eq_true] at h2
  obtain ⟨h2,h3⟩:=h2
  have hL:L[i]? =some L[i]:=Array.getElem?_eq_getElem (by omega)
  refine ⟨?_,?_⟩
  ·simp only [Array.getD_eq_getD_getElem?,hL,Option.getD_some] at h2 ⊢
   simpa using h2
  have ho:ops[i]? =some ops[i]:=Array.getElem?_eq_getElem h1
  rw [ho] at h3
  refine ⟨_,ho,fun e he hb=> ?_⟩
  simp only [Option.map_some,Option.getD_some,Array.all_eq_true_iff_forall_mem] at h3
  have:=h3 e he
  rw [hb] at this
  simpa using this
 rintro ⟨h1,o,ho,h2⟩
 have hi:i<ops.size:=by
  rcases Nat.lt_or_ge i ops.size with h|h
  ·exact h
  rw [Array.getElem?_eq_none h] at ho;cases ho
 have hL:L[i]? =some L[i]:=Array.getElem?_eq_getElem (by omega)
 refine ⟨hi,?_⟩
 rw [Bool.and_eq_true]
 refine ⟨?_,?_⟩
 ·simp only [Array.getD_eq_getD_getElem?,hL,Option.getD_some] at h1 ⊢
  rw [h1];rfl
 rw [ho]
 simp only [Option.map_some,Option.getD_some,Array.all_eq_true_iff_forall_mem]
 intro e he
 cases hb:Region.binds .any e with
 |false=>rfl
 |true=>have:=h2 e he hb;simpa using this
theorem mem_readyL {ops:Array Oper} {l:List Nat} {i:Nat}:i∈readyL ops l↔i∉l∧∃o,ops[i]? =some o∧Edges (·∈l) o:=by
 unfold readyL
 rw [List.mem_filter,List.mem_range]
 constructor
 ·rintro ⟨h1,h2⟩
  rw [Bool.and_eq_true] at h2
  obtain ⟨h2,h3⟩:=h2
  refine ⟨by simpa using h2,?_⟩
  have ho:ops[i]? =some ops[i]:=Array.getElem?_eq_getElem h1
  rw [ho] at h3
  refine ⟨_,ho,fun e he hb=> ?_⟩
  simp only [Option.map_some,Option.getD_some,Array.all_eq_true_iff_forall_mem] at h3
  have:=h3 e he
  rw [hb] at this
  simpa using this
 rintro ⟨h1,o,ho,h2⟩
 have hi:i<ops.size:=by
  rcases Nat.lt_or_ge i ops.size with h|h
  ·exact h
  rw [Array.getElem?_eq_none h] at ho;cases ho
 refine ⟨hi,?_⟩
 rw [Bool.and_eq_true]
 refine ⟨by simpa using h1,?_⟩
 rw [ho]
 simp only [Option.map_some,Option.getD_some,Array.all_eq_true_iff_forall_mem]
 intro e he
 cases hb:Region.binds .any e with
 |false=>rfl
 |true=>have:=h2 e he hb;simpa using this
theorem wr_no {ops:Array Oper} {l:List Nat} {o:Oper} (h:wrB ops l o=false) {d:Tmp} (hd:o.dst=some d):d∉o.looksAt ops∧∀i∈l,∀p,ops[i]? =some p→p.dst≠some d∧d∉p.looksAt ops:=by
 unfold wrB at h
 rw [hd] at h
 simp only [Bool.or_eq_false_iff] at h
 obtain ⟨h1,h2⟩:=h
 refine ⟨by simpa using h1,fun i hi p hp=> ?_⟩
 rw [List.any_eq_false] at h2
 have:=h2 i hi
 simp only [hp,Bool.or_eq_true,not_or] at this
 exact ⟨by simpa using this.1,by simpa using this.2⟩
theorem ap_yes {ops:Array Oper} {b:Nat} {l:List Nat} {o:Oper} (h:apB ops b l o=true) {i:Nat} (hi:i∈l) {p:Oper} (hp:ops[i]? =some p):b.testBit i=true∨p.apart ops o=true:=by
 unfold apB at h
 have:=List.all_eq_true.1 h i hi
 simp only [hp,Bool.or_eq_true] at this
 exact this
end Go.Ev
namespace Go.Ev
open Classical
section
variable (G:Program) (ops:Array Oper) (φ0:Phi) (e0:TE) (nx0:P) (w0:World) (df:List Deferred)
def Dep (φ:Phi) (e:TE) (nx:P) (q:P) (lk:List Tmp) (t:TV) (x:XO) (av:AV):Prop:=
 ∃t1,(∀d∈lk,gV (toS d) t1=gV (toS d) t)∧
  ((clX x=0∧∃h,evX x t1 h= .v av h)∨
   (clX x=1∧∃e1 e2 nx2,evX x t1 (.mk e1 q)= .v av (.mk e2 nx2)∧φ q=none∧nx0.n≤q.n∧q.n<nx.n∧gE q e=gE q e2)∨
   (clX x=2∧evX x t1 (.mk e nx)= .v av (.mk e nx)))
structure Pend (φ:Phi) (e:TE) (nx:P) (t:TV) (q:P) (o:Oper):Prop where
 own:∀d,o.dst=some d→d∉o.looksAt ops
 val:∃g,cGd ops o.guard=some g∧(wantG g t=false→∀d,o.dst=some d→gV (toS d) t=undefA)∧
  (wantG g t=true→∃av,(∀d,o.dst=some d→hasV (toS d) t→gV (toS d) t=av)∧Dep nx0 φ e nx q (o.looksAt ops) t (cOpr G o) av)
def Chain (ops:Array Oper):List Nat→Prop
 |[]=>True
 |i::r=>(∃o,ops[i]? =some o∧Edges (·∈r) o)∧i∉r∧Chain ops r
def Cw (t:TV) (o:Oper):Prop:=clX (cOpr G o)=1∧∃g,cGd ops o.guard=some g∧wantG g t=true
structure Inv (qf:Nat→P) (l:List Nat) (L:Array Bool) (t:TV) (e:TE) (nx:P) (φ:Phi) (a:Act) (w:World):Prop where
 stp:Stp φ0 e0 nx0 w0 φ e nx w
 df:a.defers=df
 size:L.size=ops.size
 sub:∀i,L.getD i false=true→i∈l
 ch:Chain ops l
 cL:Closed ops fun i=>L.getD i false=true
 tm:∀p:S,hasV p t↔p.n<a.tmps.size
 tr:∀p:S,(∀i o d,i∈l→L.getD i false=false→ops[i]? =some o→o.dst=some d→toS d≠p)→vr φ (gV p t) (a.tmps.getD p.n undef)
 pe:∀i o,i∈l→L.getD i false=false→ops[i]? =some o→Pend G ops nx0 φ e nx t (qf i) o
 inj:∀i i' o o',i∈l→i'∈l→L.getD i false=false→L.getD i' false=false→ops[i]? =some o→ops[i']? =some o'→Cw G ops t o→Cw G ops t o'→qf i=qf i'→i=i'
 ap:∀i i' o o' d,i∈l→i'∈l→L.getD i' false=false→ops[i]? =some o→ops[i']? =some o'→o'.dst=some d→d∈o.looksAt ops→((Region.before ops).getD i 0).testBit i'=true
variable {G ops φ0 e0 nx0 w0 df}
variable {l:List Nat} {L:Array Bool} {t:TV} {e:TE} {nx:P} {φ:Phi} {a:Act} {w:World} {qf:Nat→P}
theorem tmp_looks {o:Oper} {d:Tmp} (h: .tmp d∈o.op.operands):d∈o.looksAt ops:=by
 unfold Oper.looksAt
 refine List.mem_append_left _ (List.mem_filterMap.2 ⟨.tmp d,by simpa using h,rfl⟩)
theorem grd_looks {o:Oper} {d j:Nat} {b:Bool} (h:o.guard=some (j,b)) (hd:(ops[j]?).bind (·.dst)=some d):d∈o.looksAt ops:=by
 unfold Oper.looksAt
 refine List.mem_append_right _ ?_
 rw [h]
 simp only [hd,Option.toList_some,List.mem_singleton]
theorem od_looks {t1:TV} {o:Oper} (hl:∀d∈o.looksAt ops,gV (toS d) t1=gV (toS d) t) (ht:∀d∈o.looksAt ops,vr φ (gV (toS d) t) (a.tmps.getD d undef)):∀y∈o.op.operands,okOd y=true→OD φ t1 a.eval y:=fun y hy hok=>by
 cases y with
 |tmp i=>
  have hi:=tmp_looks (ops:=ops) hy
  show vr φ (gV (toS i) t1) (a.tmps.getD i undef)
  rw [hl i hi];exact ht i hi
 |const v=>
  have h':(ofV v).isSome=true:=hok
  obtain ⟨b,hb⟩:=Option.isSome_iff_exists.1 h'
  show vr φ (evO (cOd (.const v)) t1) v
  have:cOd (.const v)= .k b:=by simp [cOd,hb]
  rw [this]
  exact ofV_ok hb φ
 |global g=>exact rfl
 |func f=>exact ⟨#[],#[],rfl,rfl,rfl⟩
theorem want_looks {o:Oper} {g:Gd} (hg:cGd ops o.guard=some g) (htm:∀p:S,hasV p t↔p.n<a.tmps.size) (ht:∀d∈o.looksAt ops,vr φ (gV (toS d) t) (a.tmps.getD d undef)):Region.wanted o (yielded ops a.tmps)=wantG g t:=
 want_ok (φ:=φ) hg (fun d ⟨j,b,h1,h2⟩=>⟨by have:=htm (toS d);rwa [n_toS] at this,ht d (grd_looks h1 h2)⟩) rfl
theorem want_congr {o:Oper} {g:Gd} {t':TV} (hg:cGd ops o.guard=some g) (h:∀d∈o.looksAt ops,gV (toS d) t'=gV (toS d) t):wantG g t'=wantG g t:=by
 cases hgd:o.guard with
 |none=>rw [hgd] at hg;cases hg;rfl
 |some p=>
  obtain ⟨j,b⟩:=p
  rw [hgd] at hg
  simp only [cGd,Option.map_eq_some_iff] at hg
  obtain ⟨d,hd,rfl⟩:=hg
  show wantB (gV (toS d) t') b=wantB (gV (toS d) t) b
  rw [h d (grd_looks hgd hd)]
theorem not_defer {o:Oper} (h:clX (cOpr G o)≠3):∀c,o.op≠.defer c:=fun c hc=>by
 have:cOpr G o= .bad 130∨cOpr G o= .bad 141:=by
  unfold cOpr
  split
  ·left;unfold cOp;rw [hc]
  right;rfl
 rcases this with hb|hb<;>rw [hb] at h<;>exact h rfl
theorem toS_inj {c d:Nat} (h:toS c=toS d):c=d:=by have:=congrArg S.n h;rwa [n_toS,n_toS] at this
theorem getD_set {α:Type} (tm:Array α) (d:Nat) (v u:α) (k:Nat):(tm.setIfInBounds d v).getD k u=if k=d∧d<tm.size then v else tm.getD k u:=by
 rw [Array.getD_eq_getD_getElem?,Array.getElem?_setIfInBounds,Array.getD_eq_getD_getElem?]
 by_cases h1:d=k
 ·subst h1
  by_cases h2:d<tm.size
  ·simp [h2]
  simp [h2]
 rw [if_neg h1,if_neg (fun hh=>h1 hh.1.symm)]
theorem tr_done (hI:Inv G ops φ0 e0 nx0 w0 df qf l L t e nx φ a w) {i:Nat} {o:Oper} (ho:ops[i]? =some o) {φ':Phi} (hφ:∀p k,φ p=some k→φ' p=some k) {v:Value}
    (hv:∀d,o.dst=some d→hasV (toS d) t→vr φ' (gV (toS d) t) v):∀p:S,(∀j p' d,j∈l→(L.setIfInBounds i true).getD j false=false→ops[j]? =some p'→p'.dst=some d→toS d≠p)→vr φ' (gV p t) ((a.put o.dst v).tmps.getD p.n undef):=fun p hp=>by
 have hold:(∀d,o.dst=some d→toS d≠p)→vr φ' (gV p t) (a.tmps.getD p.n undef):=fun hne=>vr_mono hφ (hI.tr p fun j p' d hj hLj hpj hd=>by
  by_cases hji:j=i
  ·subst hji
   have:o=p':=Option.some.inj (ho.symm.trans hpj)
   subst this
   exact hne d hd
  refine hp j p' d hj ?_ hpj hd
  rw [getD_set,if_neg fun hh=>hji hh.1];exact hLj)
 cases hd:o.dst with
 |none=>exact hold fun d hh=>by rw [hd] at hh;cases hh
 |some d=>
  rw [put_tmps,getD_set]
  by_cases hpd:toS d=p
  ·subst hpd
   rw [n_toS]
   have htm:=hI.tm (toS d)
   rw [n_toS] at htm
   by_cases hlt:d<a.tmps.size
   ·rw [if_pos ⟨rfl,hlt⟩];exact hv d hd (htm.2 hlt)
   rw [if_neg fun hh=>hlt hh.2,gV_no _ _ fun hh=>hlt (htm.1 hh)]
   simp [Array.getD_eq_getD_getElem?,hlt]
   exact vr_undef
  rw [if_neg fun hh=>hpd (by rw [←hh.1];exact toS_n p)]
  exact hold fun d' hd'=>by rw [hd] at hd';cases hd';exact hpd
theorem size_put (a:Act) (d:Option Tmp) (v:Value):(a.put d v).tmps.size=a.tmps.size:=by cases d<;>simp [Act.put]
theorem run_pend (hI:Inv G ops φ0 e0 nx0 w0 df qf l L t e nx φ a w) {F:Fence} (hF:WF F) {n:Nat} {Q:Exit→Act→World→Prop} {i:Nat} {K:Act→World→Prop} (hi:i∈l) (hr:i∈Region.ready .any ops L)
    (hK:∀φ' a' w',Inv G ops φ0 e0 nx0 w0 df qf l (L.setIfInBounds i true) t e nx φ' a' w'→K a' w'):wpOpIn F n G ops Q i K a w:=by
 obtain ⟨hLi,o,ho,hed⟩:=(mem_ready hI.size).1 hr
 obtain ⟨hown,g,hg,hv0,hv1⟩:=hI.pe i o hi hLi ho
 have hlt:i<L.size:=by
  rw [hI.size]
  rcases Nat.lt_or_ge i ops.size with h|h
  ·exact h
  rw [Array.getElem?_eq_none h] at ho;cases ho
 have hset:∀j,(L.setIfInBounds i true).getD j false=true↔j=i∨L.getD j false=true:=fun j=>by
  rw [getD_set]
  by_cases hj:j=i
  ·simp [hj,hlt]
  simp [hj]
 have hsetf:∀j,(L.setIfInBounds i true).getD j false=false→j≠i∧L.getD j false=false:=fun j hj=>by
  rw [getD_set] at hj
  by_cases hji:j=i
  ·rw [if_pos ⟨hji,hlt⟩] at hj;cases hj
  rw [if_neg fun hh=>hji hh.1] at hj;exact ⟨hji,hj⟩
 have hlook:∀d∈o.looksAt ops,vr φ (gV (toS d) t) (a.tmps.getD d undef):=fun d hd=>by
  have:=hI.tr (toS d) fun j p' d' hj hLj hpj hd' he=>by
   have he':=toS_inj he
   subst he'
   have hm:=hI.ap i j o p' d' hi hj hLj ho hpj hd' hd
   have:=anc hI.cL ho hed hm
   rw [hLj] at this;cases this
  rw [n_toS] at this;exact this
 have hwant:=want_looks hg hI.tm hlook
 have fin:∀φ' v w',Stp φ0 e0 nx0 w0 φ' e nx w'→(∀p k,φ p=some k→φ' p=some k)→(∀d,o.dst=some d→hasV (toS d) t→vr φ' (gV (toS d) t) v)→
     (∀j o',j∈l→(L.setIfInBounds i true).getD j false=false→ops[j]? =some o'→Pend G ops nx0 φ' e nx t (qf j) o')→K (a.put o.dst v) w':=fun φ' v w' hs hφ hv hpe=>by
  refine hK φ' _ w' ⟨hs,by rw [put_defers];exact hI.df,by simp [hI.size],fun j hj=> ?_,hI.ch,fun j oj hj hoj ed hed' hb=> ?_,fun p=>by rw [size_put];exact hI.tm p,tr_done hI ho hφ hv,hpe,fun j j' oj oj' hj hj' hLj hLj'=>hI.inj j j' oj oj' hj hj' (hsetf _ hLj).2 (hsetf _ hLj').2,fun j j' oj oj' d hj hj' hLj=>hI.ap j j' oj oj' d hj hj' (hsetf _ hLj).2⟩
  ·rcases (hset j).1 hj with rfl|h
   ·exact hi
   exact hI.sub j h
  refine (hset _).2 (.inr ?_)
  rcases (hset j).1 hj with rfl|h
  ·have:o=oj:=Option.some.inj (ho.symm.trans hoj)
   subst this
   exact hed ed hed' hb
  exact hI.cL j oj h hoj ed hed' hb
 have hpe0:∀j o',j∈l→(L.setIfInBounds i true).getD j false=false→ops[j]? =some o'→Pend G ops nx0 φ e nx t (qf j) o':=fun j o' hj hLj hoj=>hI.pe j o' hj (hsetf _ hLj).2 hoj
 unfold wpOpIn
 rw [ho]
 show if Region.wanted o (yielded ops a.tmps)=true then _ else _
 cases hwb:wantG g t with
 |false=>
  rw [if_neg (by rw [hwant,hwb];simp)]
  exact ⟨fun f _=>hF.fn f,fin φ undef w hI.stp (fun _ _ h=>h) (fun d hd _=>by rw [hv0 hwb d hd];exact vr_undef) hpe0⟩
 |true=>
  rw [if_pos (by rw [hwant,hwb])]
  obtain ⟨av,hav,t1,hag,hdep⟩:=hv1 hwb
  have hod:=od_looks (o:=o) hag hlook
  have run:∀v w',(execOp a.eval o).run G w= .ok (.value v) w'→clX (cOpr G o)≠3→K (a.put o.dst v) w'→o.wpIn F n G a w K Q:=fun v w' he hc hk=>by
   refine ⟨fun f _=>hF.fn f,?_⟩
   rw [Oper.semAt_eq _ _ _ (not_defer hc),he];exact hk
  have hout:=op_out (G:=G) (φ:=φ) (t:=t1) (ρ:=a.eval) (o:=o) hod
  rcases hdep with ⟨hc,h,hev⟩|⟨hc,e1,e2,nx2,hev,hq,hq0,hqn,hqe⟩|⟨hc,hev⟩
  ·cases hout with
   |pu _ f=>
    obtain ⟨b,v,h1,h2,h3⟩:=f h (by rw [hev];trivial)
    rw [hev] at h1
    cases h1
    exact run v w (h3 w) (by rw [hc];simp) (fin φ v w hI.stp (fun _ _ h=>h) (fun d hd hh=>by rw [hav d hd hh];exact h2) hpe0)
   |al hc' _=>rw [hc] at hc';cases hc'
   |rd hc' _=>rw [hc] at hc';cases hc'
   |ef hc' _=>rw [hc] at hc';cases hc'
  ·cases hout with
   |al _ f=>
    obtain ⟨D,obj,val,S,h1,h2,h3⟩:=f e1 (qf i) (by rw [hev];trivial)
    have h4:=h1 e1 (qf i)
    rw [hev] at h4
    injection h4 with h5 h6
    injection h6 with h7 h8
    have hent:gE (qf i) e=D.ent (qf i):=by rw [hqe,h7,gE_put_same]
    have hrel:=real_rel (o:=obj) (l:=⟨w.heap.size,0,S⟩) hI.stp.rel hq hqn rfl
     (fun b hb=>by
      have hb':D.ent (qf i)= .bk b.f b.g b.s b.m b.n b.c:=by rw [←hent];exact hb
      obtain ⟨_,_,_,k4⟩:=h2.blk (qf i) b hb'
      obtain ⟨k5,k6,vs,k7,k8,k9,k10⟩:=k4 w
      exact ⟨k5,by show 0+b.n≤S;omega,fun _=>⟨vs,k7,lr_mono (setF_le hq) k8,k9,k10⟩⟩)
     (fun es ck hb=>by
      obtain ⟨E,k1,k2⟩:=h2.map (qf i) es ck (by rw [←hent];exact hb)
      exact ⟨rfl,E,k1,k2⟩)
     (fun st pe t ps as bd hb=>absurd (by rw [←hent];exact hb) (h2.loop (qf i) st pe t ps as bd))
    have hst:Stp φ0 e0 nx0 w0 (setF φ (qf i) ⟨w.heap.size,0,S⟩) e nx (w.alloc obj):=by
     refine ⟨hrel,hI.stp.gr,fun p hp=> ?_,fun p k hp=> ?_,hI.stp.ghost,⟨hI.stp.fr.os,hI.stp.fr.tape,hI.stp.fr.output,Nat.le_trans hI.stp.fr.size (by simp),fun k hk hn=> ?_⟩,hI.stp.busy⟩
     ·rw [setF_other _ fun hh=>by subst hh;omega];exact hI.stp.ext p hp
     ·by_cases hpq:p=qf i
      ·rw [hpq,setF_same] at hp;have:=(Option.some.inj hp).symm;subst this;exact .inl hI.stp.fr.size
      rw [setF_other _ hpq] at hp;exact hI.stp.img p k hp
     rw [heap_alloc_old obj (Nat.lt_of_lt_of_le hk hI.stp.fr.size)];exact hI.stp.fr.block k hk hn
    refine run _ _ (h3 w) (by rw [hc];simp) (fin _ _ _ hst (setF_le hq) (fun d hd hh=>by rw [hav d hd hh,h5];exact h2.val (qf i) _ _ (setF_same _ _)) fun j o' hj hLj hoj=> ?_)
    obtain ⟨hji,hLj'⟩:=hsetf j hLj
    obtain ⟨p1,g',p2,p3,p4⟩:=hI.pe j o' hj hLj' hoj
    refine ⟨p1,g',p2,p3,fun hw=> ?_⟩
    obtain ⟨av',b1,t2,b2,b3⟩:=p4 hw
    refine ⟨av',b1,t2,b2,?_⟩
    rcases b3 with b3|⟨b4,f1,f2,n2,b5,b6,b7,b8,b9⟩|b3
    ·exact .inl b3
    ·refine .inr (.inl ⟨b4,f1,f2,n2,b5,?_,b7,b8,b9⟩)
     rw [setF_other _ fun hqq=>hji (hI.inj j i o' o hj hi hLj' hLi hoj ho ⟨b4,g',p2,hw⟩ ⟨hc,g,hg,hwb⟩ hqq)]
     exact b6
    exact .inr (.inr b3)
   |pu hc' _=>rw [hc] at hc';cases hc'
   |rd hc' _=>rw [hc] at hc';cases hc'
   |ef hc' _=>rw [hc] at hc';cases hc'
  cases hout with
  |rd _ f=>
   obtain ⟨b,v,h1,h2,h3⟩:=f e nx w hI.stp.rel (by rw [hev];trivial)
   rw [hev] at h1
   cases h1
   exact run v w h3 (by rw [hc];simp) (fin φ v w hI.stp (fun _ _ h=>h) (fun d hd hh=>by rw [hav d hd hh];exact h2) hpe0)
  |al hc' _=>rw [hc] at hc';cases hc'
  |pu hc' _=>rw [hc] at hc';cases hc'
  |ef hc' _=>rw [hc] at hc';cases hc'
end
end Go.Ev
namespace Go.Ev
open Classical
section
variable {G:Program} {ops:Array Oper} {φ0:Phi} {e0:TE} {nx0:P} {w0:World} {df:List Deferred}
variable {l:List Nat} {L:Array Bool} {t:TV} {e:TE} {nx:P} {φ:Phi} {a:Act} {w:World} {qf:Nat→P}
noncomputable def setD (d:Option Tmp) (t:TV) (av:AV):TV:=match d with
 |none=>t
 |some d=>setV (toS d) t av
theorem putD_set {d:Option Tmp} {av:AV} {K:TV→X}:putD (cDst d) t av K=K (setD d t av):=putD_eq
theorem setD_other {d:Option Tmp} {av:AV} {p:S} (h:∀c,d=some c→toS c≠p):gV p (setD d t av)=gV p t:=by
 cases d with
 |none=>rfl
 |some c=>exact gV_setV_other _ _ _ _ (h c rfl)
theorem has_setD {d:Option Tmp} {av:AV} {p:S}:hasV p (setD d t av)↔hasV p t:=by
 cases d with
 |none=>exact Iff.rfl
 |some c=>exact has_setV _ _ _ _
theorem oneS_ok {bf:Array Nat} {i:Nat} {ck:CL} {r:SL} {cf:CF} {ds:DS} {h:Hp} {x:X} (hr:runS (oneS G ops bf l i ck r) cf t ds h=x) (hx:x.ok):
    ∃o g,ops[i]? =some o∧apB ops (bf.getD i 0) l o=true∧cGd ops o.guard=some g∧bX (wantG g t) (stepR (evX (cOpr G o) t h) cf (cDst o.dst) ck t ds (runS r cf)) (putD (cDst o.dst) t undefA fun t=>runS r cf t ds h)=x:=by
 unfold oneS at hr
 split at hr
 ·rename_i o ho
  split at hr
  ·rename_i hap
   split at hr
   ·rename_i g hg
    exact ⟨o,g,ho,hap,hg,hr⟩
   rw [←hr] at hx;exact False.elim hx
  rw [←hr] at hx;exact False.elim hx
 rw [←hr] at hx;exact False.elim hx
theorem ghost_stp (h:Rel φ e nx w) {x:Ent} (hx:∀b:Bk,x= .bk b.f b.g b.s b.m b.n b.c→b.f=nx∧b.s=0∧b.m=false):Stp φ e nx w φ (putE nx e x) nx.succ w:=
 ⟨ghost_rel h fun b hb=>⟨(hx b hb).2.1,.inl ⟨(hx b hb).1,(hx b hb).2.2⟩⟩,by rw [P.n_succ];omega,fun _ _=>rfl,fun p l hp=> .inr ⟨p,l,hp,rfl⟩,fun p hp _=>gE_put_other _ _ _ _ fun hh=>by subst hh;omega,Fr.refl _ _,
  bz_put fun _ _ _ _ _ hh=>by rw [h.new nx (Nat.le_refl _)] at hh;cases hh⟩
theorem gr_put (h:Rel φ e nx w) (x:Ent):Gr e (putE nx e x):=fun p hp=>gE_put_other _ _ _ _ fun hh=>by subst hh;exact hp (h.new _ (Nat.le_refl _))
theorem Pend.step {o:Oper} {q:P} (hp:Pend G ops nx0 φ e nx t q o) {φ':Phi} {e':TE} {nx':P} {d:Option Tmp} {av:AV} (hl:∀c,d=some c→c∉o.looksAt ops) (hd:∀c,d=some c→o.dst≠some c)
    (h1:φ q=none→q.n<nx.n→φ' q=none∧gE q e'=gE q e) (hn:nx.n≤nx'.n)
    (h2:∀g,clX (cOpr G o)=2→cGd ops o.guard=some g→wantG g (setD d t av)=true→∀b t1,evX (cOpr G o) t1 (.mk e nx)= .v b (.mk e nx)→(∀c∈o.looksAt ops,gV (toS c) t1=gV (toS c) t)→(∀c,o.dst=some c→hasV (toS c) t→gV (toS c) t=b)→
     ∃b' t2,(∀c∈o.looksAt ops,gV (toS c) t2=gV (toS c) (setD d t av))∧(∀c,o.dst=some c→hasV (toS c) t→gV (toS c) t=b')∧evX (cOpr G o) t2 (.mk e' nx')= .v b' (.mk e' nx')):
    Pend G ops nx0 φ' e' nx' (setD d t av) q o:=by
 obtain ⟨p1,g,p2,p3,p4⟩:=hp
 have hlk:∀c∈o.looksAt ops,gV (toS c) (setD d t av)=gV (toS c) t:=fun c hc=>setD_other fun c' hc' he=>hl c' hc' (toS_inj he▸hc)
 have hds:∀c,o.dst=some c→gV (toS c) (setD d t av)=gV (toS c) t:=fun c hc=>setD_other fun c' hc' he=>hd c' hc' (toS_inj he▸hc)
 have hw:=want_congr p2 hlk
 refine ⟨p1,g,p2,fun h c hc=> ?_,fun h=> ?_⟩
 ·rw [hds c hc];exact p3 (hw.symm.trans h) c hc
 obtain ⟨b,q1,t1,q2,q3⟩:=p4 (hw.symm.trans h)
 rcases q3 with ⟨q4,hh,q5⟩|⟨q4,e1,e2,n2,q5,q6,q7,q8,q9⟩|⟨q4,q5⟩
 ·exact ⟨b,fun c hc hv=>by rw [hds c hc];exact q1 c hc (has_setD.1 hv),t1,fun c hc=>(q2 c hc).trans (hlk c hc).symm,.inl ⟨q4,hh,q5⟩⟩
 ·obtain ⟨f1,f2⟩:=h1 q6 q8
  exact ⟨b,fun c hc hv=>by rw [hds c hc];exact q1 c hc (has_setD.1 hv),t1,fun c hc=>(q2 c hc).trans (hlk c hc).symm,.inr (.inl ⟨q4,e1,e2,n2,q5,f1,q7,Nat.lt_of_lt_of_le q8 hn,f2.trans q9⟩)⟩
 obtain ⟨b',t2,f1,f2,f3⟩:=h2 g q4 p2 h b t1 q5 q2 q1
 exact ⟨b',fun c hc hv=>by rw [hds c hc];exact f2 c hc (has_setD.1 hv),t2,f1,.inr (.inr ⟨q4,f3⟩)⟩
theorem cw_congr {o:Oper} {t':TV} (h:∀d∈o.looksAt ops,gV (toS d) t'=gV (toS d) t) (hc:Cw G ops t' o):Cw G ops t o:=by
 obtain ⟨h1,g,h2,h3⟩:=hc
 exact ⟨h1,g,h2,(want_congr h2 h).symm.trans h3⟩
theorem step_float (hI:Inv G ops φ0 e0 nx0 w0 df qf l L t e nx φ a w) {i:Nat} {r:SL} {cf:CF} {ds:DS} {x:X} (hi:i∈readyL ops l) (hf:flB G ops l i=true)
    (hr:runS (oneS G ops (Region.before ops) l i .z r) cf t ds (.mk e nx)=x) (hx:x.ok):
    ∃qf' t' e' nx',Inv G ops φ0 e0 nx0 w0 df qf' (i::l) L t' e' nx' φ a w∧runS r cf t' ds (.mk e' nx')=x:=by
 obtain ⟨hil,o,ho,hed⟩:=mem_readyL.1 hi
 obtain ⟨o',g,ho',hap,hg,hr⟩:=oneS_ok hr hx
 obtain rfl:o=o':=Option.some.inj (ho.symm.trans ho')
 unfold flB at hf
 rw [ho] at hf
 rw [Bool.and_eq_true] at hf
 obtain ⟨hc3,hwr⟩:=hf
 have hwr':wrB ops l o=false:=by simpa using hwr
 have hc3':clX (cOpr G o)<3:=Nat.lt_of_succ_le (Nat.le_of_ble_eq_true hc3)
 have hLi:L.getD i false=false:=by
  cases hh:L.getD i false with
  |false=>rfl
  |true=>exact absurd (hI.sub i hh) hil
 have hown:∀d,o.dst=some d→d∉o.looksAt ops:=fun d hd=>(wr_no hwr' hd).1
 have fin : ∀ (av : AV) (e' : TE) (nx' : P), Stp φ e nx w φ e' nx' w → (∀ q, φ q = none → q.n < nx.n → gE q e' = gE q e) → Gr e e' → (Cw G ops t o → nx' = nx.succ) →
     Pend G ops nx0 φ e' nx' (setD o.dst t av) nx o→runS r cf (setD o.dst t av) ds (.mk e' nx')=x→
     ∃qf' t' e' nx',Inv G ops φ0 e0 nx0 w0 df qf' (i::l) L t' e' nx' φ a w∧runS r cf t' ds (.mk e' nx')=x:=fun av e' nx' hs hgE hgr hcw hpn hrun=>by
  have hlk:∀{j p},j∈l→ops[j]? =some p→∀c∈p.looksAt ops,gV (toS c) (setD o.dst t av)=gV (toS c) t:=fun {j p} hj hp c hc=>setD_other fun d hd he=>(wr_no hwr' hd).2 j hj p hp |>.2 (toS_inj he▸hc)
  have hlki:∀c∈o.looksAt ops,gV (toS c) (setD o.dst t av)=gV (toS c) t:=fun c hc=>setD_other fun d hd he=>hown d hd (toS_inj he▸hc)
  have hne:∀{j},j∈l→j≠i:=fun hj he=>hil (he▸hj)
  refine ⟨fun j=>if j=i then nx else qf j,setD o.dst t av,e',nx',⟨hI.stp.trans hs,hI.df,hI.size,fun j hj=>List.mem_cons_of_mem _ (hI.sub j hj),⟨⟨o,ho,hed⟩,hil,hI.ch⟩,hI.cL,fun p=>has_setD.trans (hI.tm p),fun p hp=> ?_,fun j p hj hLj hp=> ?_,fun j j' p p' hj hj' hLj hLj' hp hp' hcj hcj' hq=> ?_,fun j j' p p' d hj hj' hLj' hp hp' hd hdl=> ?_⟩,hrun⟩
  ·rw [setD_other fun d hd=>hp i o d List.mem_cons_self hLi ho hd]
   exact hI.tr p fun j p' d hj hLj hpj hd=>hp j p' d (List.mem_cons_of_mem _ hj) hLj hpj hd
  ·rcases List.mem_cons.1 hj with rfl|hj
   ·obtain rfl:o=p:=Option.some.inj (ho.symm.trans hp)
    simp only [if_true]
    exact hpn
   simp only [if_neg (hne hj)]
   refine (hI.pe j p hj hLj hp).step (fun d hd=>((wr_no hwr' hd).2 j hj p hp).2) (fun d hd=>((wr_no hwr' hd).2 j hj p hp).1) (fun h1 h2=>⟨h1,hgE _ h1 h2⟩) hs.gr fun g' h2 _ _ b t1 h3 h4 h5=> ?_
   obtain ⟨b',k1,k2⟩:=two_ev (t:=t1) (nx:=nx) (nx':=nx') (.inr h2) hgr (by rw [h3];trivial)
   rw [h3] at k1
   cases k1
   exact ⟨b,t1,fun c hc=>(h4 c hc).trans (hlk hj hp c hc).symm,h5,k2⟩
  ·by_cases h1:j=i<;>by_cases h2:j'=i
   ·rw [h1,h2]
   ·have hj2:j'∈l:=(List.mem_cons.1 hj').resolve_left h2
    simp only [h1,if_true,if_neg h2] at hq
    obtain ⟨c1,g',c2,c3⟩:=cw_congr (hlk hj2 hp') hcj'
    obtain ⟨_,g2,d2,_,d3⟩:=hI.pe j' p' hj2 hLj' hp'
    obtain rfl:g'=g2:=Option.some.inj (c2.symm.trans d2)
    obtain ⟨_,_,t1,_,d4⟩:=d3 c3
    rcases d4 with ⟨d5,_⟩|⟨_,_,_,_,_,_,_,d8,_⟩|⟨d5,_⟩
    ·rw [c1] at d5;cases d5
    ·rw [←hq] at d8;exact absurd d8 (Nat.lt_irrefl _)
    rw [c1] at d5;cases d5
   ·have hj2:j∈l:=(List.mem_cons.1 hj).resolve_left h1
    simp only [h2,if_true,if_neg h1] at hq
    obtain ⟨c1,g',c2,c3⟩:=cw_congr (hlk hj2 hp) hcj
    obtain ⟨_,g2,d2,_,d3⟩:=hI.pe j p hj2 hLj hp
    obtain rfl:g'=g2:=Option.some.inj (c2.symm.trans d2)
    obtain ⟨_,_,t1,_,d4⟩:=d3 c3
    rcases d4 with ⟨d5,_⟩|⟨_,_,_,_,_,_,_,d8,_⟩|⟨d5,_⟩
    ·rw [c1] at d5;cases d5
    ·rw [hq] at d8;exact absurd d8 (Nat.lt_irrefl _)
    rw [c1] at d5;cases d5
   have hj1:j∈l:=(List.mem_cons.1 hj).resolve_left h1
   have hj2:j'∈l:=(List.mem_cons.1 hj').resolve_left h2
   simp only [if_neg h1,if_neg h2] at hq
   exact hI.inj j j' p p' hj1 hj2 hLj hLj' hp hp' (cw_congr (hlk hj1 hp) hcj) (cw_congr (hlk hj2 hp') hcj') hq
  rcases List.mem_cons.1 hj with h1|hj1<;>rcases List.mem_cons.1 hj' with h2|hj2
  ·subst h1 h2
   obtain rfl:o=p:=Option.some.inj (ho.symm.trans hp)
   obtain rfl:o=p':=Option.some.inj (ho.symm.trans hp')
   exact absurd hdl (hown d hd)
  ·subst h1
   obtain rfl:o=p:=Option.some.inj (ho.symm.trans hp)
   rcases ap_yes hap hj2 hp' with h|h
   ·exact h
   exact absurd hdl ((Oper.apart_spec h).1 d hd)
  ·subst h2
   obtain rfl:o=p':=Option.some.inj (ho.symm.trans hp')
   exact absurd hdl ((wr_no hwr' hd).2 j hj1 p hp).2
  exact hI.ap j j' p p' d hj1 hj2 hLj' hp hp' hd hdl
 have hlki:∀av,∀c∈o.looksAt ops,gV (toS c) t=gV (toS c) (setD o.dst t av):=fun av c hc=>(setD_other fun d hd he=>hown d hd (toS_inj he▸hc)).symm
 have hset:∀av c,o.dst=some c→hasV (toS c) (setD o.dst t av)→gV (toS c) (setD o.dst t av)=av:=fun av c hc hh=>by
  rw [hc];rw [hc] at hh
  exact gV_setV_same _ _ _ ((has_setV _ _ _ _).1 hh)
 cases hw:wantG g t with
 |false=>
  rw [hw] at hr
  have hr':(putD (cDst o.dst) t undefA fun t=>runS r cf t ds (.mk e nx))=x:=hr
  rw [putD_set] at hr'
  have hgw:wantG g (setD o.dst t undefA)=false:=(want_congr hg fun d hd=>(hlki undefA d hd).symm).trans hw
  refine fin undefA e nx (Stp.refl hI.stp.rel) (fun _ _ _=>rfl) (fun _ _=>rfl) (fun ⟨_,g',h2,h3⟩=> ?_) ⟨hown,g,hg,fun _ c hc=> ?_,fun hh=>(by rw [hgw] at hh;cases hh)⟩ hr'
  ·obtain rfl:g=g':=Option.some.inj (hg.symm.trans h2)
   rw [hw] at h3;cases h3
  by_cases hh:hasV (toS c) (setD o.dst t undefA)
  ·exact hset undefA c hc hh
  exact gV_no _ _ hh
 |true=>
  rw [hw] at hr
  have hr':stepR (evX (cOpr G o) t (.mk e nx)) cf (cDst o.dst) .z t ds (runS r cf)=x:=hr
  have hok:(evX (cOpr G o) t (.mk e nx)).ok:=by
   cases hev:evX (cOpr G o) t (.mk e nx) with
   |bad m=>rw [hev] at hr';rw [←hr'] at hx;exact False.elim hx
   |_=>trivial
  have hc:clX (cOpr G o)=0∨clX (cOpr G o)=1∨clX (cOpr G o)=2:=by omega
  have pnd:∀av e' nx',Dep nx0 φ e' nx' nx (o.looksAt ops) (setD o.dst t av) (cOpr G o) av→Pend G ops nx0 φ e' nx' (setD o.dst t av) nx o:=fun av e' nx' hd=>
   ⟨hown,g,hg,fun hh=>(by rw [(want_congr hg fun d hd=>(hlki av d hd).symm).trans hw] at hh;cases hh),fun _=>⟨av,hset av,hd⟩⟩
  rcases hc with hc|hc|hc
  ·obtain ⟨av,hev⟩:=keeps_ev (.inl hc) hok
   rw [hev] at hr'
   have hr2:(putD (cDst o.dst) t av fun t=>runS r cf t ds (.mk e nx))=x:=hr'
   rw [putD_set] at hr2
   exact fin av e nx (Stp.refl hI.stp.rel) (fun _ _ _=>rfl) (fun _ _=>rfl) (fun ⟨h2,_⟩=>by rw [hc] at h2;cases h2) (pnd av e nx ⟨t,hlki av,.inl ⟨hc,_,hev⟩⟩) hr2
  ·obtain ⟨av,ent,hev,hx1,_⟩:=new_ev hc hok
   rw [hev] at hr'
   have hr2:(putD (cDst o.dst) t av fun t=>runS r cf t ds (.mk (putE nx e ent) nx.succ))=x:=hr'
   rw [putD_set] at hr2
   have hrel:=hI.stp.rel
   refine fin av _ _ (ghost_stp hrel hx1) (fun q _ hq=>gE_put_other _ _ _ _ fun hh=>by subst hh;omega) (gr_put hrel ent) (fun _=>rfl) (pnd av _ _ ⟨t,hlki av,.inr (.inl ⟨hc,e,putE nx e ent,nx.succ,hev,hrel.none (Nat.le_refl _),hI.stp.gr,by rw [P.n_succ];omega,rfl⟩)⟩) hr2
  obtain ⟨av,hev⟩:=keeps_ev (.inr hc) hok
  rw [hev] at hr'
  have hr2:(putD (cDst o.dst) t av fun t=>runS r cf t ds (.mk e nx))=x:=hr'
  rw [putD_set] at hr2
  exact fin av e nx (Stp.refl hI.stp.rel) (fun _ _ _=>rfl) (fun _ _=>rfl) (fun ⟨h2,_⟩=>by rw [hc] at h2;cases h2) (pnd av e nx ⟨t,hlki av,.inr (.inr ⟨hc,hev⟩)⟩) hr2
end
end Go.Ev
namespace Go.Ev
open Classical
section
variable {G:Program} {ops:Array Oper} {φ0:Phi} {e0:TE} {nx0:P} {w0:World} {df:List Deferred}
variable {l:List Nat} {L:Array Bool} {t:TV} {e:TE} {nx:P} {φ:Phi} {a:Act} {w:World} {qf:Nat→P}
theorem chk_ok {b:Nat} {h:Hp} {K x:X}:∀{l':List Nat},chkC (chkL G ops b l') t h K=x→x.ok→
    (∀j∈l',∀p g,ops[j]? =some p→clX (cOpr G p)=2→b.testBit j=false→cGd ops p.guard=some g→wantG g t=true→∃av h',evX (cOpr G p) t h= .v av h'∧∃c,p.dst=some c∧av=gV (toS c) t)∧K=x
 |[],hr,hx=>⟨fun j hj=>(by cases hj),hr⟩
 |i::l',hr,hx=>by
  unfold chkL at hr
  split at hr
  ·rename_i o ho
   split at hr
   ·rename_i g hc hg
    rw [Bool.and_eq_true] at hc
    have hr':bX (wantG g t) (eqR (evX (cOpr G o) t h) (cDst o.dst) t (chkC (chkL G ops b l') t h K)) (chkC (chkL G ops b l') t h K)=x:=hr
    have key:chkC (chkL G ops b l') t h K=x∧(wantG g t=true→∃av h',evX (cOpr G o) t h= .v av h'∧∃c,o.dst=some c∧av=gV (toS c) t):=by
     cases hw:wantG g t with
     |false=>rw [hw] at hr';exact ⟨hr',fun hh=>by cases hh⟩
     |true=>
      rw [hw] at hr'
      have hr2:eqR (evX (cOpr G o) t h) (cDst o.dst) t (chkC (chkL G ops b l') t h K)=x:=hr'
      cases hev:evX (cOpr G o) t h with
      |v av h'=>
       rw [hev] at hr2
       cases hd:o.dst with
       |none=>rw [hd] at hr2;rw [←hr2] at hx;exact False.elim hx
       |some c=>
        rw [hd] at hr2
        obtain ⟨h1,h2⟩:=bX_ok (show bX (beqV av (gV (toS c) t)) (chkC (chkL G ops b l') t h K) (.bad 91)=x from hr2) hx
        exact ⟨h2,fun _=>⟨av,h',rfl,c,rfl,beqV_eq h1⟩⟩
      |_=>rw [hev] at hr2;rw [←hr2] at hx;exact False.elim hx
    obtain ⟨h1,h2⟩:=chk_ok key.1 hx
    refine ⟨fun j hj p g' hp hc2 hb hg' hw=> ?_,h2⟩
    rcases List.mem_cons.1 hj with rfl|hj
    ·obtain rfl:o=p:=Option.some.inj (ho.symm.trans hp)
     obtain rfl:g=g':=Option.some.inj (hg.symm.trans hg')
     exact key.2 hw
    exact h1 j hj p g' hp hc2 hb hg' hw
   rename_i hno
   obtain ⟨h1,h2⟩:=chk_ok hr hx
   refine ⟨fun j hj p g' hp hc2 hb hg' hw=> ?_,h2⟩
   rcases List.mem_cons.1 hj with rfl|hj
   ·obtain rfl:o=p:=Option.some.inj (ho.symm.trans hp)
    exact absurd hg' (hno g' (by rw [hc2,hb];rfl))
   exact h1 j hj p g' hp hc2 hb hg' hw
  rename_i hno
  obtain ⟨h1,h2⟩:=chk_ok hr hx
  refine ⟨fun j hj p g' hp hc2 hb hg' hw=> ?_,h2⟩
  rcases List.mem_cons.1 hj with rfl|hj
  ·rw [hno] at hp;cases hp
  exact h1 j hj p g' hp hc2 hb hg' hw
theorem step_eff (hI:Inv G ops φ0 e0 nx0 w0 df qf l L t e nx φ a w) {cf:CF} (hcf:CfOk G cf) {F:Fence} (hF:WF F) {n:Nat} {Q:Exit→Act→World→Prop} {i:Nat} {K:Act→World→Prop} {r:SL} {ds:DS} {x:X} (hil:i∉l) (hi:i∈Region.ready .any ops L)
    (hr:runS (oneS G ops (Region.before ops) l i (chkL G ops ((Region.before ops).getD i 0) l) r) cf t ds (.mk e nx)=x) (hx:x.ok)
    (hK:∀t' e' nx' φ' a' w',Inv G ops φ0 e0 nx0 w0 df qf (i::l) (L.setIfInBounds i true) t' e' nx' φ' a' w'→runS r cf t' ds (.mk e' nx')=x→K a' w'):wpOpIn F n G ops Q i K a w:=by
 obtain ⟨hLi,o,ho,hed⟩:=(mem_ready hI.size).1 hi
 obtain ⟨o',g,ho',hap,hg,hr⟩:=oneS_ok hr hx
 obtain rfl:o=o':=Option.some.inj (ho.symm.trans ho')
 have hlt:i<L.size:=by
  rw [hI.size]
  rcases Nat.lt_or_ge i ops.size with h|h
  ·exact h
  rw [Array.getElem?_eq_none h] at ho;cases ho
 have hset:∀j,(L.setIfInBounds i true).getD j false=true↔j=i∨L.getD j false=true:=fun j=>by
  rw [getD_set]
  by_cases hj:j=i
  ·simp [hj,hlt]
  simp [hj]
 have hsetf:∀j,(L.setIfInBounds i true).getD j false=false→j≠i∧L.getD j false=false:=fun j hj=>by
  rw [getD_set] at hj
  by_cases hji:j=i
  ·rw [if_pos ⟨hji,hlt⟩] at hj;cases hj
  rw [if_neg fun hh=>hji hh.1] at hj;exact ⟨hji,hj⟩
 have hapt:∀j p,j∈l→L.getD j false=false→ops[j]? =some p→p.apart ops o=true∧((Region.before ops).getD i 0).testBit j=false:=fun j p hj hLj hp=>by
  have hnb:((Region.before ops).getD i 0).testBit j=false:=by
   cases hb:((Region.before ops).getD i 0).testBit j with
   |false=>rfl
   |true=>have:=anc hI.cL ho hed hb;rw [hLj] at this;cases this
  refine ⟨(ap_yes hap hj hp).resolve_left fun h=>(by rw [hnb] at h;cases h),hnb⟩
 have hlook:∀d∈o.looksAt ops,vr φ (gV (toS d) t) (a.tmps.getD d undef):=fun d hd=>by
  have:=hI.tr (toS d) fun j p' d' hj hLj hpj hd' he=>by
   have he':=toS_inj he
   subst he'
   exact (Oper.apart_spec (hapt j p' hj hLj hpj).1).1 _ hd' hd
  rw [n_toS] at this;exact this
 have hwant:=want_looks hg hI.tm hlook
 have hlk:∀av j p,j∈l→L.getD j false=false→ops[j]? =some p→∀c∈p.looksAt ops,gV (toS c) (setD o.dst t av)=gV (toS c) t:=fun av j p hj hLj hp c hc=>setD_other fun d hd he=>(Oper.apart_spec (hapt j p hj hLj hp).1).2.2 d hd (toS_inj he▸hc)
 have fin:∀(φ':Phi) (av:AV) (e':TE) (nx':P) (v:Value) (w':World),Stp φ e nx w φ' e' nx' w'→vr φ' av v→
     (∀j p,j∈l→L.getD j false=false→ops[j]? =some p→∀g',clX (cOpr G p)=2→cGd ops p.guard=some g'→wantG g' (setD o.dst t av)=true→∀b t1,evX (cOpr G p) t1 (.mk e nx)= .v b (.mk e nx)→(∀c∈p.looksAt ops,gV (toS c) t1=gV (toS c) t)→(∀c,p.dst=some c→hasV (toS c) t→gV (toS c) t=b)→
      ∃b' t2,(∀c∈p.looksAt ops,gV (toS c) t2=gV (toS c) (setD o.dst t av))∧(∀c,p.dst=some c→hasV (toS c) t→gV (toS c) t=b')∧evX (cOpr G p) t2 (.mk e' nx')= .v b' (.mk e' nx'))→
     Inv G ops φ0 e0 nx0 w0 df qf (i::l) (L.setIfInBounds i true) (setD o.dst t av) e' nx' φ' (a.put o.dst v) w':=fun φ' av e' nx' v w' hs hv hrd=>by
  have hin:∀{j},j∈i::l→j≠i→j∈l:=fun hj hne=>(List.mem_cons.1 hj).resolve_left hne
  have hle:=Stp.le hI.stp.rel hs
  refine ⟨hI.stp.trans hs,by rw [put_defers];exact hI.df,by simp [hI.size],fun j hj=> ?_,⟨⟨o,ho,fun ed hd hb=>hI.sub _ (hed ed hd hb)⟩,hil,hI.ch⟩,fun j oj hj hoj ed hed' hb=> ?_,fun p=>by rw [size_put];exact has_setD.trans (hI.tm p),fun p hp=> ?_,fun j p hj hLj hp=> ?_,fun j j' p p' hj hj' hLj hLj' hp hp' hcj hcj'=> ?_,fun j j' p p' d hj hj' hLj' hp hp' hd hdl=> ?_⟩
  ·rcases (hset j).1 hj with rfl|h
   ·exact List.mem_cons_self
   exact List.mem_cons_of_mem _ (hI.sub j h)
  ·refine (hset _).2 (.inr ?_)
   rcases (hset j).1 hj with rfl|h
   ·obtain rfl:o=oj:=Option.some.inj (ho.symm.trans hoj)
    exact hed ed hed' hb
   exact hI.cL j oj h hoj ed hed' hb
  ·have hold : vr φ' (gV p t) (a.tmps.getD p.n undef) := vr_mono hle (hI.tr p fun j p' d hj hLj hpj hd => hp j p' d (List.mem_cons_of_mem _ hj) (by
     rw [getD_set,if_neg fun (hh:j=i∧i<L.size)=>hil (hh.1▸hj)];exact hLj) hpj hd)
   cases hd:o.dst with
   |none=>exact hold
   |some d=>
    rw [put_tmps,getD_set]
    by_cases hpd:toS d=p
    ·subst hpd
     rw [n_toS]
     have htm:=hI.tm (toS d)
     rw [n_toS] at htm
     by_cases hlt':d<a.tmps.size
     ·rw [if_pos ⟨rfl,hlt'⟩]
      show vr φ' (gV (toS d) (setV (toS d) t av)) v
      rw [gV_setV_same _ _ _ (htm.2 hlt')];exact hv
     rw [if_neg fun hh=>hlt' hh.2]
     show vr φ' (gV (toS d) (setV (toS d) t av)) _
     rw [gV_no _ _ (fun hh=>hlt' (htm.1 ((has_setV _ _ _ _).1 hh)))]
     simp [Array.getD_eq_getD_getElem?,hlt']
     exact vr_undef
    rw [if_neg fun hh=>hpd (by rw [←hh.1];exact toS_n p)]
    show vr φ' (gV p (setV (toS d) t av)) _
    rw [gV_setV_other _ _ _ _ hpd];exact hold
  ·obtain ⟨hji,hLj'⟩:=hsetf j hLj
   have hjl:=hin hj hji
   have ha:=Oper.apart_spec (hapt j p hjl hLj' hp).1
   refine (hI.pe j p hjl hLj' hp).step (fun d hd=>ha.2.2 d hd) (fun d hd he=>ha.2.1 d he hd) (fun h1 h2=>⟨(hs.ext _ h2).trans h1,hs.ghost _ h2 h1⟩) hs.gr fun g' h2 h3 h4 b t1 h5 h6 h7=>hrd j p hjl hLj' hp g' h2 h3 h4 b t1 h5 h6 h7
  ·obtain ⟨h1,h2⟩:=hsetf j hLj
   obtain ⟨h3,h4⟩:=hsetf j' hLj'
   exact hI.inj j j' p p' (hin hj h1) (hin hj' h3) h2 h4 hp hp' (cw_congr (hlk av j p (hin hj h1) h2 hp) hcj) (cw_congr (hlk av j' p' (hin hj' h3) h4 hp') hcj')
  obtain ⟨h3,h4⟩:=hsetf j' hLj'
  have hj2:=hin hj' h3
  by_cases hji:j=i
  ·subst hji
   obtain rfl:o=p:=Option.some.inj (ho.symm.trans hp)
   exact absurd hdl ((Oper.apart_spec (hapt j' p' hj2 h4 hp').1).1 d hd)
  exact hI.ap j j' p p' d (hin hj hji) hj2 h4 hp hp' hd hdl
 unfold wpOpIn
 rw [ho]
 show if Region.wanted o (yielded ops a.tmps)=true then _ else _
 cases hw:wantG g t with
 |false=>
  rw [if_neg (by rw [hwant,hw];simp)]
  rw [hw] at hr
  have hr':(putD (cDst o.dst) t undefA fun t=>runS r cf t ds (.mk e nx))=x:=hr
  rw [putD_set] at hr'
  refine ⟨fun f _=>hF.fn f,hK _ _ _ _ _ _ (fin φ undefA e nx undef w (Stp.refl hI.stp.rel) vr_undef fun j p hj hLj hp g' h2 h3 h4 b t1 h5 h6 h7=>⟨b,t1,fun c hc=>(h6 c hc).trans (hlk _ j p hj hLj hp c hc).symm,h7,h5⟩) hr'⟩
 |true=>
  rw [if_pos (by rw [hwant,hw])]
  rw [hw] at hr
  refine op_wp (t:=t) hcf hF hI.stp.rel (od_looks (fun _ _=>rfl) hlook) (show stepR (evX (cOpr G o) t (.mk e nx)) cf (cDst o.dst) (chkL G ops ((Region.before ops).getD i 0) l) t ds (runS r cf)=x from hr) hx fun φ' av e' nx' v w' h1 h2 h3=> ?_
  rw [putD_set] at h3
  obtain ⟨k1,k2⟩:=chk_ok h3 hx
  refine hK _ _ _ _ _ _ (fin φ' av e' nx' v w' h1 h2 fun j p hj hLj hp g' c2 c3 c4 b t1 h5 h6 h7=> ?_) k2
  obtain ⟨av',h',m1,c,m2,m3⟩:=k1 j hj p g' hp c2 (hapt j p hj hLj hp).2 c3 c4
  obtain ⟨av2,m4⟩:=keeps_ev (.inr c2) (show (evX (cOpr G p) (setD o.dst t av) (.mk e' nx')).ok by rw [m1];trivial)
  rw [m1] at m4
  obtain ⟨rfl,rfl⟩:av'=av2∧h'= .mk e' nx':=by injection m4 with m5 m6;exact ⟨m5,m6⟩
  refine ⟨av',setD o.dst t av,fun _ _=>rfl,fun c' hc' hh=> ?_,m1⟩
  rw [m2] at hc'
  cases hc'
  rw [m3,setD_other fun d hd he=>(Oper.apart_spec (hapt j p hj hLj hp).1).2.1 c m2 (by rw [hd,toS_inj he])]
def unl (L:Array Bool):Nat:=((List.range L.size).filter fun i=> !L.getD i true).length
theorem unl_set {i:Nat} (hi:i<L.size) (hL:L.getD i false=false):unl (L.setIfInBounds i true)<unl L:=by
 have hLt:L.getD i true=false:=by
  simp only [Array.getD_eq_getD_getElem?,Array.getElem?_eq_getElem hi,Option.getD_some] at hL ⊢;exact hL
 unfold unl
 rw [Array.size_setIfInBounds]
 have e1:((List.range L.size).filter fun j=> !(L.setIfInBounds i true).getD j true)=((List.range L.size).filter fun j=> !L.getD j true).filter fun j=>j !=i:=by
  rw [List.filter_filter]
  apply List.filter_congr
  intro j _
  rw [getD_set]
  by_cases hj:j=i
  ·subst hj;simp [hi]
  simp [hj]
 rw [e1,List.length_filter_lt_length_iff_exists]
 exact ⟨i,List.mem_filter.2 ⟨List.mem_range.2 hi,by rw [hLt];rfl⟩,by simp⟩
theorem all_done (hI:Inv G ops φ0 e0 nx0 w0 df qf l L t e nx φ a w) (hr:Region.ready .any ops L=[]):∀i∈l,L.getD i false=true:=by
 have key:∀{l':List Nat},Chain ops l'→(∀i∈l',L.getD i false=true):=by
  intro l'
  induction l' with
  |nil=>intro _ i hi;cases hi
  |cons j r ih=>
   rintro ⟨⟨o,ho,he⟩,_,hc⟩ i hi
   have hr':=ih hc
   rcases List.mem_cons.1 hi with rfl|hi
   ·cases hL:L.getD i false with
    |true=>rfl
    |false=>
     have:i∈Region.ready .any ops L:=(mem_ready hI.size).2 ⟨hL,o,ho,fun ed hd hb=>hr' _ (he ed hd hb)⟩
     rw [hr] at this;cases this
   exact hr' i hi
 exact key hI.ch
theorem plan_end (hI:Inv G ops φ0 e0 nx0 w0 df qf l L t e nx φ a w) (hr:Region.ready .any ops L=[]) {k:Nat} {cf:CF} {ds:DS} {x:X} (hrun:runS (planS G ops (Region.before ops) k l) cf t ds (.mk e nx)=x):NoX φ0 e0 nx0 w0 ds x df a w:=by
 have hd:=all_done hI hr
 have hrl:readyL ops l=[]:=by
  cases h:readyL ops l with
  |nil=>rfl
  |cons i r=>
   have hi:i∈readyL ops l:=by rw [h];simp
   obtain ⟨h1,o,ho,he⟩:=mem_readyL.1 hi
   have hL:L.getD i false=false:=by
    cases hh:L.getD i false with
    |false=>rfl
    |true=>exact absurd (hI.sub i hh) h1
   have:i∈Region.ready .any ops L:=(mem_ready hI.size).2 ⟨hL,o,ho,fun ed hd' hb=>hd _ (he ed hd' hb)⟩
   rw [hr] at this;cases this
 have hz:planS G ops (Region.before ops) k l= .z:=by cases k<;>simp [planS,hrl]
 rw [hz] at hrun
 refine ⟨φ,t,e,nx,hrun.symm,fun p=>⟨hI.tm p,hI.tr p fun i o d hi hL=> ?_⟩,hI.stp,hI.df⟩
 rw [hd i hi] at hL;cases hL
theorem adv {cf:CF} (hcf:CfOk G cf) {F:Fence} (hF:WF F) {n:Nat} {Q:Exit→Act→World→Prop} {i:Nat} {K:Act→World→Prop} {ds:DS} {x:X} (hx:x.ok) (hi:i∈Region.ready .any ops L)
    (hK:∀qf' k' l' t' e' nx' φ' a' w',Inv G ops φ0 e0 nx0 w0 df qf' l' (L.setIfInBounds i true) t' e' nx' φ' a' w'→runS (planS G ops (Region.before ops) k' l') cf t' ds (.mk e' nx')=x→K a' w'):
    ∀(k:Nat) (qf:Nat→P) (l:List Nat) (t:TV) (e:TE) (nx:P),Inv G ops φ0 e0 nx0 w0 df qf l L t e nx φ a w→runS (planS G ops (Region.before ops) k l) cf t ds (.mk e nx)=x→wpOpIn F n G ops Q i K a w:=by
 intro k
 induction k with
 |zero=>
  intro qf l t e nx hI hr
  by_cases hil:i∈l
  ·exact run_pend hI hF hil hi fun φ' a' w' h=>hK qf 0 l t e nx φ' a' w' h hr
  exfalso
  obtain ⟨_,o,ho,he⟩:=(mem_ready hI.size).1 hi
  have hm:i∈readyL ops l:=mem_readyL.2 ⟨hil,o,ho,fun ed hd hb=>hI.sub _ (he ed hd hb)⟩
  unfold planS at hr
  split at hr
  ·rename_i h;rw [h] at hm;cases hm
  rw [←hr] at hx;exact hx
 |succ k ih=>
  intro qf l t e nx hI hr
  by_cases hil:i∈l
  ·exact run_pend hI hF hil hi fun φ' a' w' h=>hK qf (k+1) l t e nx φ' a' w' h hr
  obtain ⟨_,o,ho,he⟩:=(mem_ready hI.size).1 hi
  have hm:i∈readyL ops l:=mem_readyL.2 ⟨hil,o,ho,fun ed hd hb=>hI.sub _ (he ed hd hb)⟩
  unfold planS at hr
  split at hr
  ·rename_i h;rw [h] at hm;cases hm
  rename_i r rs h
  split at hr
  ·rename_i j hj
   have h1:=List.mem_of_find?_eq_some hj
   have h2:=List.find?_some hj
   rw [←h] at h1
   obtain ⟨qf',t',e',nx',h3,h4⟩:=step_float hI h1 h2 hr hx
   exact ih qf' (j::l) t' e' nx' h3 h4
  split at hr
  ·rw [h] at hm
   obtain rfl:i=r:=by simpa using hm
   exact step_eff hI hcf hF hil hi hr hx fun t' e' nx' φ' a' w' h1 h2=>hK qf k (i::l) t' e' nx' φ' a' w' h1 h2
  rw [←hr] at hx;exact False.elim hx
theorem draw_go {cf:CF} (hcf:CfOk G cf) {F:Fence} (hF:WF F) {n:Nat} {Q:Exit→Act→World→Prop} {ds:DS} {x:X} (hx:x.ok) (hQ:∀a' w',NoX φ0 e0 nx0 w0 ds x df a' w'→Q .normal a' w'):
    ∀(fuel:Nat) (L:Array Bool) (a:Act) (w:World) (qf:Nat→P) (k:Nat) (l:List Nat) (t:TV) (e:TE) (nx:P) (φ:Phi),Inv G ops φ0 e0 nx0 w0 df qf l L t e nx φ a w→unl L≤fuel→
     runS (planS G ops (Region.before ops) k l) cf t ds (.mk e nx)=x→wpAnyIn F n G .any ops Q fuel L a w:=by
 intro fuel
 induction fuel with
 |zero=>
  intro L a w qf k l t e nx φ hI hu hr
  have hrd:Region.ready .any ops L=[]:=by
   cases h:Region.ready .any ops L with
   |nil=>rfl
   |cons i r=>
    have hi:i∈Region.ready .any ops L:=by rw [h];simp
    obtain ⟨h1,o,ho,_⟩:=(mem_ready hI.size).1 hi
    have hlt:i<L.size:=by
     rw [hI.size]
     rcases Nat.lt_or_ge i ops.size with h|h
     ·exact h
     rw [Array.getElem?_eq_none h] at ho;cases ho
    have:=unl_set hlt h1;omega
  exact ⟨hrd,hQ a w (plan_end hI hrd hr)⟩
 |succ fuel ih=>
  intro L a w qf k l t e nx φ hI hu hr
  refine ⟨fun hrd=>hQ a w (plan_end hI hrd hr),fun i hi=> ?_⟩
  obtain ⟨h1,o,ho,_⟩:=(mem_ready hI.size).1 hi
  have hlt:i<L.size:=by
   rw [hI.size]
   rcases Nat.lt_or_ge i ops.size with h|h
   ·exact h
   rw [Array.getElem?_eq_none h] at ho;cases ho
  have hlt2:=unl_set hlt h1
  exact adv hcf hF hx hi (fun qf' k' l' t' e' nx' φ' a' w' h2 h3=>ih _ a' w' qf' k' l' t' e' nx' φ' h2 (by omega) h3) k qf l t e nx hI hr
theorem region_draw {cf:CF} (hcf:CfOk G cf) (hm:G.follows .mixedOrders=true) {F:Fence} (hF:WF F) {n id:Nat} {Q:Exit→Act→World→Prop} {ds:DS} {x:X} (h:Rel φ e nx w) (ht:TR φ t a.tmps) (hr:runS (stepsOf G ops true) cf t ds (.mk e nx)=x) (hx:x.ok)
    (hQ:∀a' w',NoX φ e nx w ds x a.defers a' w'→Q .normal a' w'):(Code.region id ops true).wpIn F n G Q a w:=by
 refine wpIn_region_any hm ?_
 have hrep:∀i,(Array.replicate ops.size false).getD i false=false:=fun i=>by
  rw [Array.getD_eq_getD_getElem?,Array.getElem?_replicate];split<;>rfl
 have hI:Inv G ops φ e nx w a.defers (fun _=>nx) [] (Array.replicate ops.size false) t e nx φ a {w with drawn:=w.drawn+1}:=
  ⟨drew_stp h,rfl,by simp,fun i hi=>(by rw [hrep] at hi;cases hi),trivial,fun i o (hi:(Array.replicate ops.size false).getD i false=true)=>(by rw [hrep] at hi;cases hi),fun p=>(ht p).1,fun p _=>(ht p).2,fun i o hi=>(by cases hi),fun i i' o o' hi=>(by cases hi),fun i i' o o' d hi=>(by cases hi)⟩
 refine draw_go hcf hF hx hQ ops.size _ a _ _ ops.size [] t e nx φ hI ?_ hr
 unfold unl
 refine Nat.le_trans (List.length_filter_le _ _) (by simp)
end
end Go.Ev
namespace Go.Ev
open Classical
section
variable {G:Program} {φ φ1 φ2:Phi} {e e1 e2:TE} {nx nx1 nx2:P} {w w1 w2:World} {t:TV} {a:Act} {B0:Nat}
def mkD (r:Nat):Deferred:={target:= .collected r,args:= #[]}
def DS.len:DS→Nat
 | .z=>0
 | .s d=>d.len+1
def DM (B0:Nat) (φ:Phi) (w:World) (d:DS) (l:List Deferred):Prop:=
 ∃bs:List Nat,l=bs.map mkD∧bs.length=d.len∧bs.Nodup∧∀r∈bs,B0≤r∧w.heap[r]? =some (.deferred (some []))∧∀p k,φ p=some k→k.B≠r
theorem DM.step {d:DS} {l:List Deferred} (h:DM B0 φ w d l) (s:Stp φ e nx w φ1 e1 nx1 w1):DM B0 φ1 w1 d l:=by
 obtain ⟨bs,h1,h2,h3,h4⟩:=h
 refine ⟨bs,h1,h2,h3,fun r hr=> ?_⟩
 obtain ⟨k1,k2,k3⟩:=h4 r hr
 have hlt:r<w.heap.size:=(Array.getElem?_eq_some_iff.1 k2).1
 refine ⟨k1,(s.fr.block r hlt k3).trans k2,fun p k hp hB=> ?_⟩
 rcases s.img p k hp with h5|⟨q,j,h5,h6⟩
 ·omega
 exact k3 q j h5 (h6.trans hB)
def Cx (F:Fence) (ro:Nat) (φ:Phi) (e:TE):Prop:=
 (F.round=none∧ro=0)∨∃l0,F.round=some l0∧(ro=2∨(ro=1∧∃r0 L0 pe t ps as bd,φ r0=some L0∧L0.B=l0∧gE r0 e= .lp .busy pe t ps as bd))
theorem Cx.step {F:Fence} {ro:Nat} (h:Cx F ro φ e) (s:Stp φ e nx w φ1 e1 nx1 w1) (hr:Rel φ e nx w):Cx F ro φ1 e1:=by
 rcases h with h|⟨l0,h1,h2|⟨h2,r0,L0,pe,t,ps,as,bd,h3,h4,h5⟩⟩
 ·exact .inl h
 ·exact .inr ⟨l0,h1,.inl h2⟩
 exact .inr ⟨l0,h1,.inr ⟨h2,r0,L0,pe,t,ps,as,bd,Stp.le hr s r0 L0 h3,h4,(s.busy r0 pe t ps as bd h5).trans h5⟩⟩
def PostX (B0:Nat) (φ:Phi) (e:TE) (nx:P) (w:World) (x:X):Exit→Act→World→Prop:=fun ex a w'=>
 ∃φ' t' d' e' nx',Stp φ e nx w φ' e' nx' w'∧TR φ' t' a.tmps∧DM B0 φ' w' d' a.defers∧match ex with
  | .normal=>x= .no t' d' (.mk e' nx')
  | .exit i=>x= .ex i t' d' (.mk e' nx')
  | .ret=>x= .re t' d' (.mk e' nx')
  |_=>False
theorem PostX.trans {x:X} {ex:Exit} {w':World} (s:Stp φ e nx w φ1 e1 nx1 w1) (h:PostX B0 φ1 e1 nx1 w1 x ex a w'):PostX B0 φ e nx w x ex a w':=by
 obtain ⟨φ',t',d',e',nx',h1,h2⟩:=h
 exact ⟨φ',t',d',e',nx',s.trans h1,h2⟩
def ExOk (G:Program) (cf:CF) (c:Code):Prop:=∀{F:Fence} {n:Nat} {ro:Nat} {B0:Nat} {φ:Phi} {e:TE} {nx:P} {w:World} {t:TV} {d:DS} {a:Act} {x:X},WF F→exec c G cf ro t d (.mk e nx)=x→x.ok→
 Rel φ e nx w→TR φ t a.tmps→DM B0 φ w d a.defers→Cx F ro φ e→B0≤w.heap.size→c.wpIn F n G (PostX B0 φ e nx w x) a w
theorem thenX_ok {x y:X} {K:KX} (h:thenX x K=y) (hy:y.ok):x.ok∧((∃t d h',x= .no t d h'∧K t d h'=y)∨(∃i t d h',x= .ex i t d h'∧x=y)∨(∃t d h',x= .re t d h'∧x=y)):=by
 cases x with
 |bad n=>subst h;exact False.elim hy
 |no t d h'=>exact ⟨trivial,.inl ⟨t,d,h',rfl,h⟩⟩
 |ex i t d h'=>exact ⟨trivial,.inr (.inl ⟨i,t,d,h',rfl,h⟩)⟩
 |re t d h'=>exact ⟨trivial,.inr (.inr ⟨t,d,h',rfl,h⟩)⟩
theorem post_then {F:Fence} {n:Nat} {c2:Code} {x y:X} {K:KX} (hr:Rel φ e nx w) (h:thenX x K=y) (hy:y.ok)
    (h2:∀φ1 e1 nx1 w1 t1 d1 a1,Stp φ e nx w φ1 e1 nx1 w1→TR φ1 t1 a1.tmps→DM B0 φ1 w1 d1 a1.defers→K t1 d1 (.mk e1 nx1)=y→c2.wpIn F n G (PostX B0 φ e nx w y) a1 w1):
    ∀ex a1 w1,PostX B0 φ e nx w x ex a1 w1→Exit.then (c2.wpIn F n G (PostX B0 φ e nx w y)) (PostX B0 φ e nx w y) ex a1 w1:=fun ex a1 w1 hp=>by
 obtain ⟨φ1,t1,d1,e1,nx1,k1,k2,k3,k4⟩:=hp
 rcases (thenX_ok h hy).2 with ⟨t,d,h',e1',e2'⟩|⟨i,t,d,h',e1',e2'⟩|⟨t,d,h',e1',e2'⟩
 ·cases ex with
  |normal=>
   rw [e1'] at k4
   cases k4
   exact h2 φ1 e1 nx1 w1 t1 d1 a1 k1 k2 k3 e2'
  |exit id=>rw [e1'] at k4;cases k4
  |ret=>rw [e1'] at k4;cases k4
  |goto _=>exact False.elim k4
  |panic _=>exact False.elim k4
  |outgrown=>exact False.elim k4
 ·cases ex with
  |normal=>rw [e1'] at k4;cases k4
  |exit id=>exact ⟨φ1,t1,d1,e1,nx1,k1,k2,k3,e2'.symm.trans k4⟩
  |ret=>rw [e1'] at k4;cases k4
  |goto _=>exact False.elim k4
  |panic _=>exact False.elim k4
  |outgrown=>exact False.elim k4
 cases ex with
 |normal=>rw [e1'] at k4;cases k4
 |exit id=>rw [e1'] at k4;cases k4
 |ret=>exact ⟨φ1,t1,d1,e1,nx1,k1,k2,k3,e2'.symm.trans k4⟩
 |goto _=>exact False.elim k4
 |panic _=>exact False.elim k4
 |outgrown=>exact False.elim k4
theorem size_le (s:Stp φ e nx w φ1 e1 nx1 w1) (h:B0≤w.heap.size):B0≤w1.heap.size:=Nat.le_trans h s.fr.size
variable {cf:CF}
theorem ex_region (hcf:CfOk G cf) (hm:G.follows .mixedOrders=true) (id:Nat) (ops:Array Oper) (dr:Bool):ExOk G cf (.region id ops dr):=by
 intro F n ro B0 φ e nx w t d a x hF hr hx h ht hd hc hB
 have hQ:∀a' w',NoX φ e nx w d x a.defers a' w'→PostX B0 φ e nx w x .normal a' w':=fun a' w' ⟨φ',t',e',nx',h1,h2,h3,h4⟩=>⟨φ',t',d,e',nx',h3,h2,by rw [h4];exact hd.step h3,h1⟩
 cases dr with
 |false=>exact region_plain hcf hF h ht hr hx hQ
 |true=>exact region_draw hcf hm hF h ht hr hx hQ
theorem ex_seq {c1 c2:Code} (h1:ExOk G cf c1) (h2:ExOk G cf c2):ExOk G cf (.seq c1 c2):=by
 intro F n ro B0 φ e nx w t d a x hF hr hx h ht hd hc hB
 have hr':thenX (exec c1 G cf ro t d (.mk e nx)) (exec c2 G cf ro)=x:=hr
 refine wpIn_seq (wpIn_mono (h1 hF rfl (thenX_ok hr' hx).1 h ht hd hc hB) (post_then h hr' hx fun φ1 e1 nx1 w1 t1 d1 a1 k1 k2 k3 k4=> ?_))
 exact wpIn_mono (h2 hF k4 hx k1.rel k2 k3 (hc.step k1 h) (size_le k1 hB)) fun ex a w' hp=>hp.trans k1
theorem ex_cond {c:Operand} {c1 c2:Code} (h1:ExOk G cf c1) (h2:ExOk G cf c2):ExOk G cf (.cond c c1 c2):=by
 intro F n ro B0 φ e nx w t d a x hF hr hx h ht hd hc hB
 have hr':condX (evO (cOd c) t) (exec c1 G cf ro t d (.mk e nx)) (exec c2 G cf ro t d (.mk e nx))=x:=hr
 have hb:∃b,evO (cOd c) t= .bo b∧bX b (exec c1 G cf ro t d (.mk e nx)) (exec c2 G cf ro t d (.mk e nx))=x:=by
  cases hv:evO (cOd c) t with
  |bo b=>rw [hv] at hr';exact ⟨b,rfl,hr'⟩
  |_=>rw [hv] at hr';rw [←hr'] at hx;exact False.elim hx
 obtain ⟨b,e1,e2⟩:=hb
 have hok:okOd c=true:=by
  cases c with
  |const v=>
   show (ofV v).isSome=true
   cases hv:ofV v with
   |some _=>rfl
   |none=>
    have:cOd (.const v)= .k .ln:=by simp [cOd,hv]
    rw [this] at e1;cases e1
  |_=>rfl
 have hev:=od_act ht hok
 rw [OD,e1] at hev
 have hev':a.eval c= .bool b:=hev
 refine wpIn_cond hev' ?_
 cases b with
 |true=>exact h1 hF e2 hx h ht hd hc hB
 |false=>exact h2 hF e2 hx h ht hd hc hB
theorem ex_block {id:Nat} {c:Code} (h1:ExOk G cf c):ExOk G cf (.block id c):=by
 intro F n ro B0 φ e nx w t d a x hF hr hx h ht hd hc hB
 have hr':outX id (exec c G cf ro t d (.mk e nx))=x:=hr
 have hxo:(exec c G cf ro t d (.mk e nx)).ok:=by
  cases hv:exec c G cf ro t d (.mk e nx) with
  |bad m=>rw [hv] at hr';rw [←hr'] at hx;exact False.elim hx
  |_=>trivial
 refine wpIn_block (wpIn_mono (h1 hF rfl hxo h ht hd hc hB) fun ex a1 w1 hp=> ?_)
 obtain ⟨φ1,t1,d1,e1,nx1,k1,k2,k3,k4⟩:=hp
 cases ex with
 |normal=>rw [k4] at hr';exact ⟨φ1,t1,d1,e1,nx1,k1,k2,k3,hr'.symm⟩
 |exit i=>
  rw [k4] at hr'
  have hr2:bX (Nat.beq i id) (.no t1 d1 (.mk e1 nx1)) (.ex i t1 d1 (.mk e1 nx1))=x:=hr'
  rw [bX_eq] at hr2
  show if i=id then _ else _
  by_cases hi:i=id
  ·rw [if_pos hi]
   rw [if_pos (by rw [hi];simp)] at hr2
   exact ⟨φ1,t1,d1,e1,nx1,k1,k2,k3,hr2.symm⟩
  rw [if_neg hi]
  rw [if_neg (fun hh=>hi (Nat.eq_of_beq_eq_true hh))] at hr2
  exact ⟨φ1,t1,d1,e1,nx1,k1,k2,k3,hr2.symm⟩
 |ret=>rw [k4] at hr';exact ⟨φ1,t1,d1,e1,nx1,k1,k2,k3,hr'.symm⟩
 |goto _=>exact False.elim k4
 |panic _=>exact False.elim k4
 |outgrown=>exact False.elim k4
theorem least {p:Nat→Prop}:∀m,p m→∃k,p k∧∀j,p j→k≤j:=fun m=>by
 induction m using Nat.strongRecOn with
 |_ m ih=>
  intro hm
  by_cases h:∃j,j<m∧p j
  ·obtain ⟨j,h1,h2⟩:=h;exact ih j h1 h2
  exact ⟨m, hm, fun j hj => by
   rcases Nat.lt_or_ge j m with h1|h1
   ·exact absurd ⟨j,h1,hj⟩ h
   exact h1⟩
noncomputable def mu (p:Nat→Prop):Nat:=if h:∃k,p k∧∀j,p j→k≤j then Classical.choose h else 0
theorem mu_spec {p:Nat→Prop} {m:Nat} (h:p m):p (mu p)∧mu p≤m:=by
 have h1:=least m h
 have h2:=Classical.choose_spec h1
 unfold mu
 rw [dif_pos h1]
 exact ⟨h2.1,h2.2 m h⟩
theorem ex_loop {c:Code} (h1:ExOk G cf c):ExOk G cf (.loop c):=by
 intro F n ro B0 φ e nx w t d a x hF hr hx h ht hd hc hB
 let J:Nat→Act→World→Prop:=fun m a1 w1=>∃φ1 t1 d1 e1 nx1,Stp φ e nx w φ1 e1 nx1 w1∧TR φ1 t1 a1.tmps∧DM B0 φ1 w1 d1 a1.defers∧loopX m (exec c G cf ro) t1 d1 (.mk e1 nx1)=x
 have h0:J 1000000 a w:=⟨φ,t,d,e,nx,Stp.refl h,ht,hd,hr⟩
 refine wpIn_loop (fun a1 w1=>∃m,J m a1 w1) (fun a1 w1=>mu fun m=>J m a1 w1) ⟨_,h0⟩ fun a1 w1 hI=> ?_
 obtain ⟨m0,hm0⟩:=hI
 have hm:J (mu fun m=>J m a1 w1) a1 w1:=(mu_spec (p:=fun m=>J m a1 w1) hm0).1
 generalize hμ:(mu fun m=>J m a1 w1)=mm at hm
 obtain ⟨φ1,t1,d1,e1,nx1,k1,k2,k3,k4⟩:=hm
 cases mm with
 |zero=>rw [←k4] at hx;exact False.elim hx
 |succ m=>
  have k5:thenX (exec c G cf ro t1 d1 (.mk e1 nx1)) (loopX m (exec c G cf ro))=x:=k4
  refine wpIn_mono (h1 hF rfl (thenX_ok k5 hx).1 k1.rel k2 k3 (hc.step k1 h) (size_le k1 hB)) fun ex a2 w2 hp=> ?_
  obtain ⟨φ2,t2,d2,e2,nx2,j1,j2,j3,j4⟩:=hp
  rcases (thenX_ok k5 hx).2 with ⟨t',d',h',q1,q2⟩|⟨i,t',d',h',q1,q2⟩|⟨t',d',h',q1,q2⟩
  ·cases ex with
   |normal=>
    rw [q1] at j4
    cases j4
    have hJ:J m a2 w2:=⟨φ2,t2,d2,e2,nx2,k1.trans j1,j2,j3,q2⟩
    refine ⟨⟨m,hJ⟩,?_⟩
    have h3:=(mu_spec (p:=fun m=>J m a2 w2) hJ).2
    show (mu fun m=>J m a2 w2)<m+1
    omega
   |exit id=>rw [q1] at j4;cases j4
   |ret=>rw [q1] at j4;cases j4
   |goto _=>exact False.elim j4
   |panic _=>exact False.elim j4
   |outgrown=>exact False.elim j4
  ·cases ex with
   |normal=>rw [q1] at j4;cases j4
   |exit id=>exact ⟨φ2,t2,d2,e2,nx2,k1.trans j1,j2,j3,q2.symm.trans j4⟩
   |ret=>rw [q1] at j4;cases j4
   |goto _=>exact False.elim j4
   |panic _=>exact False.elim j4
   |outgrown=>exact False.elim j4
  cases ex with
  |normal=>rw [q1] at j4;cases j4
  |exit id=>rw [q1] at j4;cases j4
  |ret=>exact ⟨φ2,t2,d2,e2,nx2,k1.trans j1,j2,j3,q2.symm.trans j4⟩
  |goto _=>exact False.elim j4
  |panic _=>exact False.elim j4
  |outgrown=>exact False.elim j4
end
end Go.Ev
namespace Go.Ev
open Classical
section
variable {G:Program} {φ φ1 φ2:Phi} {e e1 e2:TE} {nx nx1 nx2:P} {w w1 w2:World} {t:TV} {a:Act} {B0:Nat} {cf:CF}
theorem Rel.away (h:Rel φ e nx w) (hs:w.heap.size≤w1.heap.size) (hk:∀p l,φ p=some l→w1.heap[l.B]? =w.heap[l.B]?):Rel φ e nx w1 where
 lt p l hp:=⟨(h.lt p l hp).1,Nat.lt_of_lt_of_le (h.lt p l hp).2 hs⟩
 new:=h.new
 blk p l b hp hb:=by
  obtain ⟨h1,h2,h3⟩:=h.blk p l b hp hb
  refine ⟨there_congr (hk p l hp) h1,h2,fun ho=> ?_⟩
  obtain ⟨vs,e1,e2,e3,e4⟩:=h3 ho
  exact ⟨vs,e1,e2,e3,range_congr (hk p l hp) e4⟩
 map p l es ck hp hb:=by rw [hk p l hp];exact h.map p l es ck hp hb
 loop p l st pe t ps as bd hp hb:=by rw [hk p l hp];exact h.loop p l st pe t ps as bd hp hb
 root:=h.root
 one:=h.one
 sep:=h.sep
 ord:=h.ord
 mm:=h.mm
 rm:=h.rm
 mu:=h.mu
theorem alloc_away (h:Rel φ e nx w) (o:Obj):Stp φ e nx w φ e nx (w.alloc o):=
 ⟨h.away (by simp) fun p l hp=>heap_alloc_old o (h.lt p l hp).2,Nat.le_refl _,fun _ _=>rfl,fun p l hp=> .inr ⟨p,l,hp,rfl⟩,fun _ _ _=>rfl,⟨rfl,rfl,rfl,by simp,fun k hk _=>heap_alloc_old o hk⟩,fun _ _ _ _ _ _ _=>rfl⟩
theorem loop_stp (h:Rel φ e nx w) (ht:TR φ t a.tmps) {ps:Array Tmp} {as bd:Code} {fn:FuncId} {df:Nat}:
    Stp φ e nx w (setF φ nx ⟨w.heap.size,0,0⟩) (putE nx e (.lp .ready none t (ps.toList.map toS) as bd)) nx.succ (w.alloc (.loop {state:= .ready,pending:=none,fn,tmps:=a.tmps,params:=ps,assign:=as,body:=bd,defers:=df})):=
 alloc_stp h rfl (fun b hb=>by cases hb) (fun b hb=>by cases hb) (fun es ck hb=>by cases hb) fun st pe t' ps' as' bd' hb=>by
  simp only [Ent.lp.injEq] at hb
  obtain ⟨rfl,rfl,rfl,rfl,rfl,rfl⟩:=hb
  exact ⟨rfl,_,rfl,rfl,rfl,ht,rfl,rfl,rfl⟩
theorem rfR_ok {r:R} {K:Hp→X} {x:X} (h:rfR cf r K=x) (hx:x.ok):∃f y h0 v h1,r= .call f y h0∧cf (.f f) y h0= .re v h1∧K h1=x:=by
 cases r with
 |call f y h0=>
  obtain ⟨v,h1,e1,e2⟩:=onY_ok (show onY (cf (.f f) y h0) (fun _ h=>K h)=x from h) hx
  exact ⟨f,y,h0,v,h1,rfl,e1,e2⟩
 |_=>subst h;exact False.elim hx
theorem setX_eq {r:P} {x:Ent} {e:TE} {nx:P} {K:Hp→X}:setX r x (.mk e nx) K=K (.mk (putE r e x) nx):=by
 show R.rec (motive:=fun _=>X) (fun n=> .bad n) (fun _ h=>K h) (fun _ _ _=> .bad 140) (fun _ _ _=> .bad 140) (setE r x (.mk e nx) fun h=> .v undefA h)=_
 rw [setE_eq]
theorem endRf_ok {r:P} {d:DS} {x:X} (h:endRf r t d (.mk e nx)=x) (hx:x.ok):∃st pe t' ps as bd,gE r e= .lp st pe t' ps as bd∧st≠.busy∧jumpX pe t d (.mk (putE r e .no) nx)=x:=by
 have h':Ent.rec (motive:=fun _=>X) (.bad 98) (fun _ _ _ _ _ _=> .bad 98) (fun _ _=> .bad 98)
  (fun st pe _ _ _ _=>LoopState.rec (motive:=fun _=>X) (setX r .no (.mk e nx) fun h=>jumpX pe t d h) (.bad 99) (setX r .no (.mk e nx) fun h=>jumpX pe t d h) (setX r .no (.mk e nx) fun h=>jumpX pe t d h) st) (gE r e)=x:=h
 cases hg:gE r e with
 |lp st pe t' ps as bd=>
  rw [hg] at h'
  cases st with
  |busy=>rw [←h'] at hx;exact False.elim hx
  |ready=>
   have h2:(setX r .no (.mk e nx) fun h=>jumpX pe t d h)=x:=h'
   rw [setX_eq] at h2;exact ⟨_,_,_,_,_,_,rfl,by simp,h2⟩
  |done=>
   have h2:(setX r .no (.mk e nx) fun h=>jumpX pe t d h)=x:=h'
   rw [setX_eq] at h2;exact ⟨_,_,_,_,_,_,rfl,by simp,h2⟩
  |exhausted=>
   have h2:(setX r .no (.mk e nx) fun h=>jumpX pe t d h)=x:=h'
   rw [setX_eq] at h2;exact ⟨_,_,_,_,_,_,rfl,by simp,h2⟩
 |_=>rw [hg] at h';rw [←h'] at hx;exact False.elim hx
theorem ca_call {f:Operand} {L:Nat} {x:AV} {h:Hp} {g:Nat} {y:AV} {h':Hp} (hf:OD φ t a.eval f) (hx:lr φ x [.func (.yield L) #[] #[]]) (hr:caA (evO (cOd f) t) x h= .call g y h'):
    h'=h∧∃u v:Array Value,a.eval f= .func (.func g) u v∧lr φ y (u++(#[Value.func (.yield L) #[] #[]]++v)).toList:=by
 have hf':vr φ (evO (cOd f) t) (a.eval f):=hf
 generalize evO (cOd f) t=b at hf' hr
 cases b with
 |fn g' x' y'=>
  obtain ⟨u,v,e1,e2,e3⟩:=hf'
  obtain ⟨p,p1,p2⟩:=app_tot hx e3
  obtain ⟨q,q1,q2⟩:=app_tot e2 p1
  have e4:caA (.fn g' x' y') x h= .call g' q h:=((p2 fun l=>appA x' l fun l=> .call g' l h)).trans (q2 _)
  rw [e4] at hr
  injection hr with r1 r2 r3
  subst r1 r2 r3
  exact ⟨rfl,u,v,e1,by simpa using q1⟩
 |_=>cases hr
theorem mkD_inj:∀{bs cs:List Nat},bs.map mkD=cs.map mkD→bs=cs
 |[],[],_=>rfl
 |[],_::_,h=>by cases h
 |_::_,[],h=>by cases h
 |b::bs,c::cs,h=>by
  rw [List.map_cons,List.map_cons] at h
  injection h with h1 h2
  have:b=c:=by
   have h3:=congrArg Deferred.target h1
   injection h3
  rw [this,mkD_inj h2]
theorem ex_range (hcf:CfOk G cf) (g:Operand) (ps:Array Tmp) (as bd:Code):ExOk G cf (.rangeFunc g ps as bd):=by
 intro F n ro B0 φ e nx w t d a x hF hr hx h ht hd hc hB
 obtain ⟨hro,hr1⟩:=bX_ok (show bX (Nat.ble ro 1) (rfR cf (newE (.lp .ready none t (ps.toList.map toS) as bd) (.mk e nx) fun q h=>caA (evO (cOd g) t) (.lc (.yl q) .ln) h) fun h1=>endRf nx t (marks ro d) h1) (.bad 152)=x from hr) hx
 rw [newE_eq] at hr1
 obtain ⟨f,y,h0,v,h1,e1,e2,e3⟩:=rfR_ok hr1 hx
 obtain ⟨e2',nx2⟩:=h1
 have hokg:okOd g=true:=by
  cases g with
  |const c=>
   show (ofV c).isSome=true
   cases hv:ofV c with
   |some _=>rfl
   |none=>
    have:cOd (.const c)= .k .ln:=by simp [cOd,hv]
    rw [this] at e1;cases e1
  |_=>rfl
 obtain ⟨st,pe,t',ps',as',bd',e4,e5,e6⟩:=endRf_ok e3 hx
 refine wpIn_rangeFunc fun fn _=> ?_
 have main : ∀ (l : Nat) (mark : List Deferred) (w1 : World) (df : Nat), (Instr.enterLoop fn a.tmps ps as bd F.round).run G w = .ok (l, mark) w1 → Stp φ e nx w (setF φ nx ⟨l, 0, 0⟩) (putE nx e (.lp .ready none t (ps.toList.map toS) as bd)) nx.succ w1 →
     DM B0 (setF φ nx ⟨l,0,0⟩) w1 (marks ro d) (mark++a.defers)→
     ∃(l:Nat) (mark:List Deferred) (w₁:World) (d:Deferred) (w₁':World) (f:FuncId) (args:Array Value) (w₂:World),
     (Instr.enterLoop fn a.tmps ps as bd F.round).run G w= .ok (l,mark) w₁∧
     (resolve a.eval (rangeCall g l) 0).run G w₁= .ok d w₁'∧
     (∀f',Target.leads G w₁' d.target d.args=some f'→F.fn f')∧
     (invoke d.target d.args).run G w₁'= .ok (.enter f args) w₂∧
     (F.depth.isSome=true→1≤n)∧
     CallsIn F (n-1) G f args w₂ (rangePost F n G l (PostX B0 φ e nx w x) {a with defers:=mark++a.defers}):=fun l mark w1 df he hs hdm=>by
  have hyl:lr (setF φ nx ⟨l,0,0⟩) (.lc (.yl nx) .ln) [.func (.yield l) #[] #[]]:=⟨_,[],rfl,⟨_,setF_same _ _,rfl⟩,rfl⟩
  have hod:OD (setF φ nx ⟨l,0,0⟩) t a.eval g:=vr_mono (setF_le (h.none (Nat.le_refl _))) (od_act ht hokg)
  obtain ⟨h0e,u,vv,c1,c2⟩:=ca_call hod hyl e1
  subst h0e
  obtain ⟨c3,c4⟩:=hcf.f f y _ _ _ e2 trivial _ w1 (u++(#[Value.func (.yield l) #[] #[]]++vv)) hs.rel c2
  refine ⟨l,mark,w1,{target:= .fn (.func f) vv,args:=u++ #[.func (.yield l) #[] #[]]},w1,f,u++(#[Value.func (.yield l) #[] #[]]++vv),w1,he,?_,fun f' _=>hF.fn f',?_,fun hh=>absurd hh hF.depth,?_⟩
  ·have hcv:Act.eval a (.const (.func (.yield l) #[] #[]))= .func (.yield l) #[] #[]:=rfl
   simp [resolve,c1,Deferred.ofValue,hcv]
  ·show (callFunc f ((u++ #[Value.func (.yield l) #[] #[]])++vv)).run G w1=_
   rw [Array.append_assoc];exact c3
  have c5 : CallsIn F (n - 1) G f (u ++ (#[Value.func (.yield l) #[] #[]] ++ vv)) w1 (PostC (setF φ nx ⟨l, 0, 0⟩) (putE nx e (.lp .ready none t (ps.toList.map toS) as bd)) nx.succ w1 (.re v (.mk e2' nx2))) := by
   have c6:=c4.more (Nat.zero_le (n-1))
   rcases hF with rfl|⟨l',rfl⟩
   ·exact c6
   exact CallsIn.inRound l' c6
  refine c5.mono fun en w3 hp=> ?_
  cases en with
  |panicked c=>exact False.elim hp
  |outgrown=>exact False.elim hp
  |returned u'=>
   obtain ⟨φ3,av,e3',nx3,k1,k2,k3⟩:=hp
   cases k1
   have hφ3:φ3 nx=some ⟨l,0,0⟩:=by rw [k3.ext nx (by rw [P.n_succ];omega),setF_same]
   obtain ⟨_,rec,m1,m2,m3,_⟩:=k3.rel.loop nx ⟨l,0,0⟩ st pe t' ps' as' bd' hφ3 e4
   have hend:=run_endLoop (P:=G) m1 (by rw [m2];exact e5)
   have hall:=(hs.trans k3).obj (x:= .no) (ob:= .loop {rec with state:= .exhausted}) hφ3 (fun b hb=>by rw [At,e4] at hb;cases hb) (fun _ _ _ _ _ _=>by simp) (fun _ _ hh=>by cases hh) (fun _ _ _ _ _ _ hh=>by cases hh) (fun _ _ _ _ _ hh=>by rw [h.new nx (Nat.le_refl _)] at hh;cases hh)
   have hdm3:=hdm.step k3
   have hdm4:DM B0 φ3 (w3.putObj l (.loop {rec with state:= .exhausted})) (marks ro d) (mark++a.defers):=by
    obtain ⟨bs,d1,d2,d3,d4⟩:=hdm3
    refine ⟨bs,d1,d2,d3,fun r hr=> ?_⟩
    obtain ⟨f1,f2,f3⟩:=d4 r hr
    exact ⟨f1,(World.putObj_heap_other (Ne.symm (f3 nx _ hφ3))).trans f2,f3⟩
   have htr:TR φ3 t a.tmps:=tr_mono (fun p k hp=>Stp.le hs.rel k3 p k (setF_le (h.none (Nat.le_refl _)) p k hp)) ht
   have hall':Stp φ e nx w φ3 (putE nx e2' .no) nx2 (w3.putObj l (.loop {rec with state:= .exhausted})):=hall
   clear hall
   generalize w3.putObj l (.loop {rec with state:= .exhausted})=W at hend hall' hdm4
   have key:∀pp:Option Code,pp=pe→(match pp with
    |none=>PostX B0 φ e nx w x .normal {a with defers:=mark++a.defers} W
    |some c=>c.wpIn F n G (PostX B0 φ e nx w x) {a with defers:=mark++a.defers} W):=fun pp hpp=>by
    subst hpp
    cases pp with
    |none=>exact ⟨φ3,t,marks ro d,_,_,hall',htr,hdm4,e6.symm⟩
    |some c=>
     cases c with
     |exit i=>exact wpIn_exit ⟨φ3,t,marks ro d,_,_,hall',htr,hdm4,e6.symm⟩
     |ret=>exact wpIn_ret ⟨φ3,t,marks ro d,_,_,hall',htr,hdm4,e6.symm⟩
     |_=>rw [←e6] at hx;exact False.elim hx
   exact ⟨rec.pending,W,hend,key _ m3⟩
 rcases hc with ⟨hfr,rfl⟩|⟨l0,hfr,hro2|⟨rfl,r0,L0,pe0,t0,ps0,as0,bd0,g1,g2,g3⟩⟩
 ·-- in a function
  have hs0:=alloc_away h (.deferred (some []))
  have hs1:=loop_stp (a:=a) hs0.rel ht (ps:=ps) (as:=as) (bd:=bd) (fn:=fn) (df:=w.heap.size)
  have hsz:(w.alloc (.deferred (some []))).heap.size=w.heap.size+1:=by simp
  rw [hsz] at hs1
  refine main (w.heap.size+1) [mkD w.heap.size] _ w.heap.size (by rw [hfr];exact run_enterLoop_outer fn a.tmps ps as bd) (hs0.trans hs1) ?_
  obtain ⟨bs,d1,d2,d3,d4⟩:=hd.step (hs0.trans hs1)
  have hold:∀r∈bs,r<w.heap.size:=fun r hr=>by
   obtain ⟨bs',d1',d2',d3',d4'⟩:=hd
   have:bs=bs':=mkD_inj (d1.symm.trans d1')
   subst this
   exact (Array.getElem?_eq_some_iff.1 (d4' r hr).2.1).1
  refine ⟨w.heap.size::bs,by rw [d1];rfl,by rw [List.length_cons,d2];rfl,List.nodup_cons.2 ⟨fun hh=>Nat.lt_irrefl _ (hold _ hh),d3⟩,fun r hr=> ?_⟩
  rcases List.mem_cons.1 hr with rfl|hr
  ·refine ⟨hB,?_,fun p k hp=> ?_⟩
   ·rw [heap_alloc_old _ (by rw [hsz];omega)];exact heap_alloc_new' _ _
   by_cases hpn:p=nx
   ·subst hpn;rw [setF_same] at hp;cases hp;simp
   rw [setF_other _ hpn] at hp;have:=(h.lt p k hp).2;omega
  exact d4 r hr
 ·-- ahead of a round
  subst hro2;cases hro
 -- in a round
 obtain ⟨_,r1,m1,_⟩:=h.loop r0 L0 _ pe0 t0 ps0 as0 bd0 g1 g3
 rw [g2] at m1
 have hs1:=loop_stp (a:=a) h ht (ps:=ps) (as:=as) (bd:=bd) (fn:=fn) (df:=r1.defers)
 refine main w.heap.size [] _ r1.defers (by rw [hfr];exact run_enterLoop_inner m1 fn a.tmps ps as bd) hs1 ?_
 rw [List.nil_append]
 exact hd.step hs1
theorem exec_ok (hcf:CfOk G cf) (hm:G.follows .mixedOrders=true):∀c:Code,ExOk G cf c:=by
 intro c
 induction c with
 |skip=>intro F n ro B0 φ e nx w t d a x hF hr hx h ht hd hc hB;exact wpIn_skip ⟨φ,t,d,e,nx,Stp.refl h,ht,hd,hr.symm⟩
 |region id ops dr=>exact ex_region hcf hm id ops dr
 |seq a b h1 h2=>exact ex_seq h1 h2
 |cond c a b h1 h2=>exact ex_cond h1 h2
 |block id b h1=>exact ex_block h1
 |loop b h1=>exact ex_loop h1
 |rangeFunc g ps as bd _ _=>exact ex_range hcf g ps as bd
 |exit i=>intro F n ro B0 φ e nx w t d a x hF hr hx h ht hd hc hB;exact wpIn_exit ⟨φ,t,d,e,nx,Stp.refl h,ht,hd,hr.symm⟩
 |scope b _=>intro F n ro B0 φ e nx w t d a x hF hr hx;rw [←hr] at hx;exact False.elim hx
 |label l=>intro F n ro B0 φ e nx w t d a x hF hr hx h ht hd hc hB;exact wpIn_label ⟨φ,t,d,e,nx,Stp.refl h,ht,hd,hr.symm⟩
 |goto l=>intro F n ro B0 φ e nx w t d a x hF hr hx;rw [←hr] at hx;exact False.elim hx
 |ret=>intro F n ro B0 φ e nx w t d a x hF hr hx h ht hd hc hB;exact wpIn_ret ⟨φ,t,d,e,nx,Stp.refl h,ht,hd,hr.symm⟩
 |refuse s=>intro F n ro B0 φ e nx w t d a x hF hr hx;rw [←hr] at hx;exact False.elim hx
end
end Go.Ev
namespace Go.Ev
open Classical
section
variable {G:Program} {φ φ1 φ2:Phi} {e e1 e2:TE} {nx nx1 nx2:P} {w w1 w2:World} {t:TV} {a:Act} {B0:Nat} {cf:CF}
theorem setY_eq {r:P} {x:Ent} {b:Bool}:setY r x (.mk e nx) b= .re (.bo b) (.mk (putE r e x) nx):=by
 show R.rec (motive:=fun _=>Y) (fun n=> .bad n) (fun v h=> .re v h) (fun _ _ _=> .bad 140) (fun _ _ _=> .bad 140) (setE r x (.mk e nx) fun h=> .v (.bo b) h)=_
 rw [setE_eq]
theorem setPs_ok:∀{ps:List Tmp} {x:AV} {t:TV} {K:TV→X} {r:X} {tm:Array Value} {args:List Value},TR φ t tm→lr φ x args→setPs (ps.map toS) x t K=r→r.ok→
    ps.length=args.length∧∃t',TR φ t' ((ps.zip args).foldl (fun tmps (t,a)=>tmps.setIfInBounds t a) tm)∧K t'=r
 |[],x,t,K,r,tm,args,ht,hx,hr,hok=>by
  obtain ⟨h1,h2⟩:=bX_ok (show bX (Nat.beq (lenA x) 0) (K t) (.bad 84)=r from hr) hok
  have h3:=Nat.eq_of_beq_eq_true h1
  rw [lr_len hx] at h3
  obtain rfl:args=[]:=List.eq_nil_of_length_eq_zero h3
  exact ⟨rfl,t,ht,h2⟩
 |p::ps,x,t,K,r,tm,args,ht,hx,hr,hok=>by
  have hr':(onLX x fun v l=>sV (toS p) t v fun t=>setPs (ps.map toS) l t K)=r:=hr
  cases x with
  |lc v l=>
   obtain ⟨u,m,rfl,h1,h2⟩:=lr_lc hx
   have hr2:(sV (toS p) t v fun t=>setPs (ps.map toS) l t K)=r:=hr'
   rw [sV_eq] at hr2
   obtain ⟨h5,t',h3,h4⟩:=setPs_ok (tr_put ht h1) h2 hr2 hok
   exact ⟨by simp [h5],t',h3,h4⟩
  |_=>rw [←hr'] at hok;exact False.elim hok
theorem setAs_ok:∀{x:AV} {i:Nat} {t:TV} {K:TV→X} {r:X} {tm:Array Value} {args:List Value},TR φ t tm→lr φ x args→setAs x i t K=r→r.ok→i+args.length≤tm.size→∃t',TR φ t' (tm.toList.take i++(args++tm.toList.drop (i+args.length))).toArray∧K t'=r:=by
 intro x
 induction x with
 |ln=>
  intro i t K r tm args ht hx hr hok hl
  rw [lr_ln hx]
  refine ⟨t,?_,hr⟩
  simpa using ht
 |lc v l _ ih=>
  intro i t K r tm args ht hx hr hok hl
  obtain ⟨u,m,rfl,h1,h2⟩:=lr_lc hx
  have hr2:(sV (toS i) t v fun t=>setAs l (Nat.succ i) t K)=r:=hr
  rw [sV_eq] at hr2
  simp only [List.length_cons] at hl
  obtain ⟨t',h3,h4⟩:=ih (tr_put ht h1) h2 hr2 hok (by simp;omega)
  refine ⟨t',?_,h4⟩
  have e1:(tm.setIfInBounds i u).toList.take (i+1)=tm.toList.take i++[u]:=by
   rw [Array.toList_setIfInBounds,List.take_add_one,List.take_set,List.getElem?_set_self (by simp;omega)]
   rw [List.set_eq_of_length_le (by simp;omega)];rfl
  have e2:(tm.setIfInBounds i u).toList.drop (i+1+m.length)=tm.toList.drop (i+(m.length+1)):=by
   rw [Array.toList_setIfInBounds,List.drop_set_of_lt (by omega)];congr 1;omega
  have h5:Nat.succ i=i+1:=rfl
  rw [h5,e1,e2] at h3
  simpa using h3
 |_=>intro i t K r tm args ht hx;exact False.elim hx
theorem full_hasU:∀(f n:Nat) (p:Q),n<f→(hasU p (fullU f n)↔p.n<n)∧gU p (fullU f n)=undefA
 |0,n,p,h=>by omega
 |f+1,0,p,_=>by
  have:fullU (f+1) 0= .lf:=rfl
  rw [this]
  exact ⟨⟨fun h=>by cases p<;>exact False.elim h,fun h=>by omega⟩,by cases p<;>rfl⟩
 |f+1,n+1,p,h=>by
  have e0:fullU (f+1) (n+1)= .nd (fullU f ((n+1)/2)) undefA (fullU f (n/2)):=rfl
  rw [e0]
  cases p with
  |H=>exact ⟨⟨fun _=>Nat.succ_pos _,fun _=>trivial⟩,rfl⟩
  |O p=>
   obtain ⟨h1,h2⟩:=full_hasU f ((n+1)/2) p (by omega)
   exact ⟨h1.trans (by simp only [Q.n];omega),h2⟩
  |I p=>
   obtain ⟨h1,h2⟩:=full_hasU f (n/2) p (by omega)
   exact ⟨h1.trans (by simp only [Q.n];omega),h2⟩
theorem oneW_is (n k:Nat):(oneW n k).is↔k<n:=by
 have e:oneW n k=Bool.rec (motive:=fun _=>SV) .no (.v undefA) (Nat.ble (Nat.succ k) n):=rfl
 rw [e]
 cases hb:Nat.ble (Nat.succ k) n with
 |false=>exact ⟨fun h=>False.elim h,fun h=>by rw [Nat.ble_eq_true_of_le h] at hb;cases hb⟩
 |true=>exact ⟨fun _=>Nat.le_of_ble_eq_true hb,fun _=>trivial⟩
theorem oneW_get (n k:Nat):(oneW n k).get=undefA:=by
 have e:oneW n k=Bool.rec (motive:=fun _=>SV) .no (.v undefA) (Nat.ble (Nat.succ k) n):=rfl
 rw [e]
 cases Nat.ble (Nat.succ k) n<;>rfl
theorem full_has (n:Nat):∀p:S,(hasV p (fullT n)↔p.n<n)∧gV p (fullT n)=undefA
 | .s x y=>by
  obtain ⟨w,hw⟩:∃w,fullT n= .m w (fullU (Nat.succ n) (Nat.sub n 64)):=⟨_,rfl⟩
  have hs:svG x y w=oneW n (nD x+8*nD y):=by
   cases hw
   cases y<;>cases x<;>rfl
  rw [hw,gV_s]
  show ((svG x y w).is↔_)∧_
  rw [hs]
  exact ⟨oneW_is _ _,oneW_get _ _⟩
 | .l p=>by
  obtain ⟨h1,h2⟩:=full_hasU (n+1) (n-64) p (by omega)
  exact ⟨h1.trans (by simp only [S.n];omega),h2⟩
theorem tr_full (n:Nat):TR φ (fullT n) (Array.replicate n undef):=fun p=>by
 obtain ⟨h1,h2⟩:=full_has n p
 refine ⟨h1.trans (by simp),?_⟩
 rw [h2]
 have:(Array.replicate n undef).getD p.n undef=undef:=by
  rw [Array.getD_eq_getD_getElem?,Array.getElem?_replicate];split<;>rfl
 rw [this];exact vr_undef
def resF (tm:Array Value):ResultVar→Sem Value
 | .tmp t=>pure (tm.getD t undef)
 | .cell ad ty=>do loadVar ty (←asAddr (tm.getD ad undef))
theorem results_eq (fn:Func) (tm:Array Value):results fn tm=(do
    let vs ←fn.results.mapM (resF tm)
    pure (if h:vs.size=1 then vs[0] else .tuple vs)):=by
 have : (fun x => match x with
     | .tmp t=>pure (tm.getD t undef)
     | .cell ad ty=>do loadVar ty (←asAddr (tm.getD ad undef)):ResultVar→Sem Value)=resF tm:=by funext x;cases x<;>rfl
 rw [←this];rfl
theorem rv_ok (h:Rel φ e nx w) (ht:TR φ t a.tmps) {r:ResultVar} {l:List ResultVar} {K:AV→R} {x:R} (hv:rvOk G r=true) {rv:RV} (hrv:rvL G (r::l)= .c rv (rvL G l)) (hr:rvR rv t (.mk e nx) K=x) (hx:x.ok):
    ∃b v,vr φ b v∧K b=x∧(resF a.tmps r).run G w= .ok v w:=by
 cases r with
 |tmp i=>
  have:rv= .t (toS i):=by
   have h1:rvL G (.tmp i::l)= .c (.t (toS i)) (rvL G l):=rfl
   rw [h1] at hrv;injection hrv with h2;exact h2.symm
  subst this
  have hr':fV (gV (toS i) t) K=x:=hr
  rw [fV_eq] at hr'
  have:=(ht (toS i)).2
  rw [n_toS] at this
  exact ⟨_,_,this,hr',rfl⟩
 |cell ad ty=>
  have:rv= .c (toS ad) (ldT G ty):=by
   have h1:rvL G (.cell ad ty::l)= .c (.c (toS ad) (ldT G ty)) (rvL G l):=rfl
   rw [h1] at hrv;injection hrv with h2;exact h2.symm
  subst this
  obtain ⟨b,q,e1,e2⟩:=onP_ok (show (onP (gV (toS ad) t) fun b o=>rdK b (.mk e nx) fun n c=>ldC (ldT G ty) n c o fun v=>fV v K)=x from hr) hx
  have hv1:=(ht (toS ad)).2
  rw [n_toS,e1] at hv1
  obtain ⟨L,hL,hv2⟩:=hv1
  obtain ⟨n,c,vs,a1,a2,a3,a4,a5,a6,e3⟩:=rd_ok h rfl hL e2 hx
  obtain ⟨b',v,b1,b2,b3⟩:=load_ok (G:=G) hv a2 a3 a1 a4 e3 hx
  refine ⟨b',v,b2,b1,?_⟩
  simp [resF,hv2,asAddr,b3]
theorem rvs_ok (h:Rel φ e nx w) (ht:TR φ t a.tmps):∀{rs:List ResultVar} {K:AV→R} {x:R},(rs.all (rvOk G))=true→rvsR (rvL G rs) t (.mk e nx) K=x→x.ok→
    ∃l vs,lr φ l vs∧vs.length=rs.length∧K l=x∧(rs.mapM (resF a.tmps)).run G w= .ok vs w
 |[],K,x,_,hr,_=>⟨.ln,[],rfl,rfl,hr,by simp⟩
 |r::rs,K,x,hall,hr,hx=>by
  rw [List.all_cons,Bool.and_eq_true] at hall
  have hrv:∃rv,rvL G (r::rs)= .c rv (rvL G rs):=by cases r<;>exact ⟨_,rfl⟩
  obtain ⟨rv,hrv⟩:=hrv
  rw [hrv] at hr
  have hr':(rvR rv t (.mk e nx) fun v=>rvsR (rvL G rs) t (.mk e nx) fun l=>K (.lc v l))=x:=hr
  obtain ⟨b,v,h1,h2,h3⟩:=rv_ok h ht hall.1 hrv hr' hx
  obtain ⟨l,vs,h4,h5,h6,h7⟩:=rvs_ok h ht hall.2 h2 hx
  refine ⟨.lc b l,v::vs,⟨v,vs,rfl,h1,h4⟩,by simp [h5],h6,?_⟩
  rw [List.mapM_cons]
  simp only [Sem.run_bind,h3,Result.andThen_ok,h7,Sem.run_pure]
theorem res_ok (h:Rel φ e nx w) (ht:TR φ t a.tmps) {fn:Func} {y:Y} (hall:(fn.results.toList.all (rvOk G))=true) (hr:resY (rvL G fn.results.toList) t (.mk e nx)=y) (hy:y.ok):
    ∃b v,y= .re b (.mk e nx)∧vr φ b v∧(results fn a.tmps).run G w= .ok v w:=by
 have hrun:∀vs,(fn.results.toList.mapM (resF a.tmps)).run G w= .ok vs w→(results fn a.tmps).run G w= .ok (if h:vs.toArray.size=1 then vs.toArray[0] else .tuple vs.toArray) w:=fun vs hv=>by
  rw [results_eq,Array.mapM_eq_mapM_toList,Sem.run_bind,Sem.run_map,hv]
  simp only [Result.andThen_ok,Sem.run_pure]
 cases hrs:fn.results.toList with
 |nil=>
  rw [hrs] at hr hrun
  have hr':Y.re (.tu .ln) (.mk e nx)=y:=hr
  refine ⟨_,.tuple #[],hr'.symm,⟨#[],rfl,rfl⟩,?_⟩
  rw [hrun [] (by simp)];rfl
 |cons r rs=>
  rw [hrs] at hr hrun hall
  have hall':=hall
  rw [List.all_cons,Bool.and_eq_true] at hall'
  have hrv:∃rv,rvL G (r::rs)= .c rv (rvL G rs):=by cases r<;>exact ⟨_,rfl⟩
  obtain ⟨rv,hrv⟩:=hrv
  rw [hrv] at hr
  cases rs with
  |nil=>
   have hr':R.rec (motive:=fun _=>Y) (fun n=> .bad n) (fun v h=> .re v h) (fun _ _ _=> .bad 160) (fun _ _ _=> .bad 160) (rvR rv t (.mk e nx) fun v=> .v v (.mk e nx))=y:=hr
   cases hq:rvR rv t (.mk e nx) fun v=> .v v (.mk e nx) with
   |v b h'=>
    rw [hq] at hr'
    obtain ⟨b2,v,h1,h2,h3⟩:=rv_ok h (l:=[]) ht hall'.1 hrv hq trivial
    cases h2
    refine ⟨b,v,hr'.symm,h1,?_⟩
    rw [hrun [v] (by rw [List.mapM_cons];simp only [Sem.run_bind,h3,Result.andThen_ok,List.mapM_nil,Sem.run_pure])]
    rfl
   |_=>rw [hq] at hr';rw [←hr'] at hy;exact False.elim hy
  |cons r2 rs2=>
   have hrv2:∃rv2,rvL G (r2::rs2)= .c rv2 (rvL G rs2):=by cases r2<;>exact ⟨_,rfl⟩
   obtain ⟨rv2,hrv2⟩:=hrv2
   rw [hrv2] at hr
   have hr':R.rec (motive:=fun _=>Y) (fun n=> .bad n) (fun v h=> .re v h) (fun _ _ _=> .bad 160) (fun _ _ _=> .bad 160) (rvsR (.c rv (.c rv2 (rvL G rs2))) t (.mk e nx) fun l=> .v (.tu l) (.mk e nx))=y:=hr
   rw [←hrv2,←hrv] at hr'
   cases hq:rvsR (rvL G (r::r2::rs2)) t (.mk e nx) fun l=> .v (.tu l) (.mk e nx) with
   |v b h'=>
    rw [hq] at hr'
    obtain ⟨l,vs,h1,h2,h3,h4⟩:=rvs_ok h ht hall hq trivial
    cases h3
    refine ⟨.tu l,.tuple vs.toArray,hr'.symm,⟨_,rfl,by simpa using h1⟩,?_⟩
    rw [hrun vs h4,dif_neg (by simp [h2])]
   |_=>rw [hq] at hr';rw [←hr'] at hy;exact False.elim hy
end
end Go.Ev
namespace Go.Ev
open Classical
section
variable {G:Program} {φ φ1 φ2:Phi} {e e1 e2:TE} {nx nx1 nx2:P} {w w1 w2:World} {t:TV} {a:Act} {B0:Nat} {cf:CF}
theorem fnI_ok {f n : Nat} {t : TV} {rs : RL} {c : Code} (h : fnI G f = .mk n t rs c) : ∃ fn, G.funcs[f]? = some fn ∧ fn.body = some c ∧ (fn.name == "runtime.NumGoroutine") = false ∧ fn.results.toList.all (rvOk G) = true ∧ n = fn.ntmps ∧ t = fullT fn.ntmps ∧ rs = rvL G fn.results.toList := by
 unfold fnI at h
 split at h
 ·rename_i fn hf
  split at h
  ·rename_i c' hc
   split at h
   ·cases h
   rename_i hcond
   simp only [Bool.or_eq_true,not_or,Bool.not_eq_true,Bool.not_eq_eq_eq_not,Bool.not_true,Bool.not_false] at hcond
   injection h with h1 h2 h3 h4
   subst h1 h2 h3 h4
   exact ⟨fn,hf,hc,hcond.1,by simpa using hcond.2,rfl,rfl,rfl⟩
  cases h
 cases h
theorem leaves_ok {fn:Func} {y:Y} {tm:Array Value} (hall:(fn.results.toList.all (rvOk G))=true) (hy:y.ok):∀(bs:List Nat) (w2:World),Stp φ e nx w φ1 e1 nx1 w2→TR φ1 t tm→bs.Nodup→(∀r∈bs,w.heap.size≤r∧w2.heap[r]? =some (.deferred (some []))∧∀p k,φ1 p=some k→k.B≠r)→
    resY (rvL G fn.results.toList) t (.mk e1 nx1)=y→LeavesInM Fence.wide 0 G fn tm (PostC φ e nx w y) (bs.map mkD) .returning w2
 |[],w2,hs,ht,_,_,hr=>by
  obtain ⟨b,v,h1,h2,h3⟩:=res_ok (a:=⟨tm,[]⟩) hs.rel ht hall hr hy
  exact ⟨v,h3,φ1,b,e1,nx1,h1,h2,hs⟩
 |r::bs,w2,hs,ht,hn,hb,hr=>by
  obtain ⟨h1,h2,h3⟩:=hb r (by simp)
  have hn':=List.nodup_cons.1 hn
  refine ⟨by simp,.inl ⟨r,w2.putObj r (.deferred none),rfl,run_takeDeferred h2,?_⟩⟩
  have hs2:Stp φ e nx w φ1 e1 nx1 (w2.putObj r (.deferred none)):=by
   refine ⟨hs.rel.away (by rw [World.putObj_size];exact Nat.le_refl _) fun p l hp=>World.putObj_heap_other (h3 p l hp),hs.gr,hs.ext,hs.img,hs.ghost,⟨hs.fr.os,hs.fr.tape,hs.fr.output,by rw [World.putObj_size];exact hs.fr.size,fun k hk hn=> ?_⟩,hs.busy⟩
   rw [World.putObj_heap_other (by omega)];exact hs.fr.block k hk hn
  exact leaves_ok hall hy bs _ hs2 ht hn'.2 (fun q hq=>by
   obtain ⟨g1,g2,g3⟩:=hb q (by simp [hq])
   exact ⟨g1,(World.putObj_heap_other (fun hh:q=r=>hn'.1 (by rw [←hh];exact hq))).trans g2,g3⟩) hr
theorem call_ok (hcf:CfOk G cf) (hm:G.follows .mixedOrders=true) {f:Nat} {x:AV} {y:Y} (hr:callB G cf f x (.mk e nx)=y) (hy:y.ok) {args:Array Value} (h:Rel φ e nx w) (hx:lr φ x args.toList):
    (callFunc f args).run G w= .ok (.enter f args) w∧CallsIn Fence.wide 0 G f args w (PostC φ e nx w y):=by
 have hr0:FI.rec (motive:=fun _=>Y) (.bad 162) (fun n t rs c=>Bool.rec (motive:=fun _=>Y) (.bad 163) (finX rs (setAs x 0 t fun t=>exec c G cf 0 t .z (.mk e nx))) (Nat.ble (lenA x) n)) (fnI G f)=y:=hr
 cases hfi:fnI G f with
 |bad=>rw [hfi] at hr0;rw [←hr0] at hy;exact False.elim hy
 |mk n t0 rs c=>
  obtain ⟨fn,hfn,hbody,hname,hall,rfl,rfl,rfl⟩:=fnI_ok hfi
  rw [hfi] at hr0
  have hr1:Bool.rec (motive:=fun _=>Y) (.bad 163) (finX (rvL G fn.results.toList) (setAs x 0 (fullT fn.ntmps) fun t=>exec c G cf 0 t .z (.mk e nx))) (Nat.ble (lenA x) fn.ntmps)=y:=hr0
  cases hle:Nat.ble (lenA x) fn.ntmps with
  |false=>rw [hle] at hr1;rw [←hr1] at hy;exact False.elim hy
  |true=>
   rw [hle] at hr1
   have hr2:finX (rvL G fn.results.toList) (setAs x 0 (fullT fn.ntmps) fun t=>exec c G cf 0 t .z (.mk e nx))=y:=hr1
   have hsz:args.size≤fn.ntmps:=by have:=Nat.le_of_ble_eq_true hle;rw [lr_len hx] at this;simpa using this
   refine ⟨?_,?_⟩
   ·unfold callFunc
    simp [hfn,hname,hbody]
    simpa using hname
   have hxo : (setAs x 0 (fullT fn.ntmps) fun t => exec c G cf 0 t .z (.mk e nx)).ok := by
    cases hq:setAs x 0 (fullT fn.ntmps) fun t=>exec c G cf 0 t .z (.mk e nx) with
    |bad m=>rw [hq] at hr2;rw [←hr2] at hy;exact False.elim hy
    |_=>trivial
   obtain ⟨t1,h1,h2⟩:=setAs_ok (tr_full (φ:=φ) fn.ntmps) hx rfl hxo (by simp;omega)
   have htm:((Array.replicate fn.ntmps undef).toList.take 0++(args.toList++(Array.replicate fn.ntmps undef).toList.drop (0+args.toList.length))).toArray=args++Array.replicate (fn.ntmps-args.size) undef:=by
    apply Array.ext'
    simp
   rw [htm] at h1
   refine callsIn_of_wp_marks hfn hbody trivial (wpIn_mono (exec_ok hcf hm c (F:=Fence.wide) (.inl rfl) h2 hxo h h1 ⟨[],rfl,rfl,List.nodup_nil,fun r hr=>by cases hr⟩ (.inl ⟨rfl,rfl⟩) (Nat.le_refl _)) fun ex a1 w1 hp=> ?_)
   obtain ⟨φ1,t',d',e1,nx1,k1,k2,⟨bs,d1,d2,d3,d4⟩,k4⟩:=hp
   have fin:resY (rvL G fn.results.toList) t' (.mk e1 nx1)=y→LeavesInM Fence.wide 0 G fn a1.tmps (PostC φ e nx w y) a1.defers .returning w1:=fun hres=>by
    rw [d1];exact leaves_ok hall hy bs w1 k1 k2 d3 d4 hres
   cases ex with
   |normal=>rw [k4] at hr2;exact fin hr2
   |ret=>rw [k4] at hr2;exact fin hr2
   |exit i=>rw [k4] at hr2;rw [←hr2] at hy;exact False.elim hy
   |goto _=>exact False.elim k4
   |panic _=>exact False.elim k4
   |outgrown=>exact False.elim k4
theorem noX_ok {x y:X} {K:KX} (h:noX x K=y) (hy:y.ok):∃t d h',x= .no t d h'∧K t d h'=y:=by
 cases x with
 |no t d h'=>exact ⟨t,d,h',rfl,h⟩
 |_=>subst h;exact False.elim hy
theorem beginX_ok {r:P} {K:Hp→X} {x:X} (h:beginX r (.mk e nx) K=x) (hx:x.ok):∃pe t ps as bd,gE r e= .lp .ready pe t ps as bd∧K (.mk (putE r e (.lp .busy pe t ps as bd)) nx)=x:=by
 have h':Ent.rec (motive:=fun _=>X) (.bad 170) (fun _ _ _ _ _ _=> .bad 170) (fun _ _=> .bad 170)
  (fun st pe t ps as bd=>LoopState.rec (motive:=fun _=>X) (setX r (.lp .busy pe t ps as bd) (.mk e nx) K) (.bad 171) (.bad 171) (.bad 171) st) (gE r e)=x:=h
 cases hg:gE r e with
 |lp st pe t ps as bd=>
  rw [hg] at h'
  cases st with
  |ready=>
   have h2:setX r (.lp .busy pe t ps as bd) (.mk e nx) K=x:=h'
   rw [setX_eq] at h2
   exact ⟨pe,t,ps,as,bd,rfl,h2⟩
  |_=>rw [←h'] at hx;exact False.elim hx
 |_=>rw [hg] at h';rw [←h'] at hx;exact False.elim hx
theorem endY_ok {r:P} {st:LoopState} {pe:Option Code} {b:Bool} {y:Y} (h:endY r st pe (.mk e nx) b=y) (hy:y.ok):∃st' pe' t ps as bd,gE r e= .lp st' pe' t ps as bd∧y= .re (.bo b) (.mk (putE r e (.lp st pe t ps as bd)) nx):=by
 have h':Ent.rec (motive:=fun _=>Y) (.bad 170) (fun _ _ _ _ _ _=> .bad 170) (fun _ _=> .bad 170) (fun _ _ t ps as bd=>setY r (.lp st pe t ps as bd) (.mk e nx) b) (gE r e)=y:=h
 cases hg:gE r e with
 |lp st' pe' t ps as bd=>
  rw [hg] at h'
  have h2:setY r (.lp st pe t ps as bd) (.mk e nx) b=y:=h'
  rw [setY_eq] at h2
  exact ⟨_,_,_,_,_,_,rfl,h2.symm⟩
 |_=>rw [hg] at h';rw [←h'] at hy;exact False.elim hy
theorem round_ok (hcf:CfOk G cf) (hm:G.follows .mixedOrders=true) {r:P} {x:AV} {y:Y} (hr:roundY G cf r x (.mk e nx)=y) (hy:y.ok) {args:Array Value} {L:Loc} (h:Rel φ e nx w) (hx:lr φ x args.toList) (hL:φ r=some L):
    ∃fn tmps as bd,(Instr.yield L.B args).run G w= .ok (.round L.B fn tmps as bd) w∧RoundIn Fence.wide 0 G L.B fn tmps as bd w (PostC φ e nx w y):=by
 have hr0:Ent.rec (motive:=fun _=>Y) (.bad 170) (fun _ _ _ _ _ _=> .bad 170) (fun _ _=> .bad 170)
  (fun st _ t ps as bd=>LoopState.rec (motive:=fun _=>Y)
   (endX r (setPs ps x t fun t1=>noX (exec as G cf 2 t1 .z (.mk e nx)) fun t1 d h=>beginX r h fun h=>exec bd G cf 1 t1 d h))
   (.bad 171) (.bad 171) (.bad 171) st) (gE r e)=y:=hr
 cases hg:gE r e with
 |lp st pe t ps as bd=>
  rw [hg] at hr0
  cases st with
  |ready=>
   have hr1:endX r (setPs ps x t fun t1=>noX (exec as G cf 2 t1 .z (.mk e nx)) fun t1 d h=>beginX r h fun h=>exec bd G cf 1 t1 d h)=y:=hr0
   obtain ⟨hd0,rec,m1,m2,m3,m4,m5,m6,m7⟩:=h.loop r L _ _ _ _ _ _ hL hg
   obtain ⟨X,hX⟩:∃X,(setPs ps x t fun t1=>noX (exec as G cf 2 t1 .z (.mk e nx)) fun t1 d h=>beginX r h fun h=>exec bd G cf 1 t1 d h)=X:=⟨_,rfl⟩
   rw [hX] at hr1
   have hXo:X.ok:=by
    cases X with
    |bad m=>rw [←hr1] at hy;exact False.elim hy
    |_=>trivial
   rw [←m5] at hX
   obtain ⟨hlen,t1,k1,k2⟩:=setPs_ok m4 hx hX hXo
   have hsz:args.size=rec.params.size:=by simpa using hlen.symm
   refine ⟨_,_,_,_,run_yield m1 hsz,?_⟩
   have htm:(rec.params.zip args).foldl (fun tmps (t,a)=>tmps.setIfInBounds t a) rec.tmps=(rec.params.toList.zip args.toList).foldl (fun tmps (t,a)=>tmps.setIfInBounds t a) rec.tmps:=by
    rw [←Array.foldl_toList,Array.toList_zip]
   rw [htm,m6,m7]
   obtain ⟨t2,d2,h2,q1,q2⟩:=noX_ok k2 hXo
   have hfn:∀f,(Fence.wide.inRound L.B).fn f:=fun _=>trivial
   refine roundIn_of_wpIn trivial (wpIn_mono (exec_ok hcf hm as (F:=Fence.wide.inRound L.B) (B0:=w.heap.size) (a:={tmps:=(rec.params.toList.zip args.toList).foldl (fun tmps (t,a)=>tmps.setIfInBounds t a) rec.tmps,defers:=[]}) (.inr ⟨_,rfl⟩) q1 trivial h k1 ⟨[],rfl,rfl,List.nodup_nil,fun r hr=>by cases hr⟩ (.inr ⟨L.B,rfl,.inl rfl⟩) (Nat.le_refl _)) fun ex a1 w1 hp=> ?_)
   obtain ⟨φ1,t1',d1,e1,nx1,p1,p2,p3,p4⟩:=hp
   cases ex with
   |normal=>
    cases p4
    obtain ⟨pe1,tt,ps1,as1,bd1,b1,b2⟩:=beginX_ok q2 hXo
    have hL1:φ1 r=some L:=Stp.le h p1 r L hL
    obtain ⟨_,rec1,n1,n2,n3,n4,n5,n6,n7⟩:=p1.rel.loop r L _ _ _ _ _ _ hL1 b1
    refine ⟨_,run_beginRound n1 n2,?_⟩
    have hs2:=p1.obj (x:= .lp .busy pe1 tt ps1 as1 bd1) (ob:= .loop {rec1 with state:= .busy}) hL1 (fun b hb=>by rw [At,b1] at hb;cases hb) (fun _ _ _ _ _ _=>by simp) (fun _ _ hh=>by cases hh)
     (fun st pe t ps as bd hh=>by
      simp only [Ent.lp.injEq] at hh
      obtain ⟨rfl,rfl,rfl,rfl,rfl,rfl⟩:=hh
      exact ⟨hd0,_,rfl,rfl,n3,n4,n5,n6,n7⟩) (fun _ _ _ _ _ hh=>by rw [hg] at hh;cases hh)
    have hbusy:gE r (putE r e1 (.lp .busy pe1 tt ps1 as1 bd1))= .lp .busy pe1 tt ps1 as1 bd1:=gE_put_same _ _ _
    have hdm:∀dd,DM w.heap.size φ1 w1 dd a1.defers→DM w.heap.size φ1 (w1.putObj L.B (.loop {rec1 with state:= .busy})) dd a1.defers:=fun dd p3=>by
     obtain ⟨bs,c1,c2,c3,c4⟩:=p3
     refine ⟨bs,c1,c2,c3,fun q hq=> ?_⟩
     obtain ⟨f1,f2,f3⟩:=c4 q hq
     exact ⟨f1,(World.putObj_heap_other (Ne.symm (f3 r L hL1))).trans f2,f3⟩
    refine wpIn_mono (exec_ok hcf hm bd (F:=Fence.wide.inRound L.B) (.inr ⟨_,rfl⟩) b2 hXo hs2.rel p2 (hdm _ p3) (.inr ⟨L.B,rfl,.inr ⟨rfl,r,L,_,_,_,_,_,hL1,rfl,hbusy⟩⟩) (by rw [World.putObj_size];exact p1.fr.size)) fun ex a2 w3 hp=> ?_
    obtain ⟨φ3,t3,d3,e3,nx3,r1,r2,r3,r4⟩:=hp
    have hL3:φ3 r=some L:=Stp.le hs2.rel r1 r L hL1
    have hb3:gE r e3= .lp .busy pe1 tt ps1 as1 bd1:=(r1.busy r _ _ _ _ _ hbusy).trans hbusy
    obtain ⟨_,rec3,o1,o2,o3,o4,o5,o6,o7⟩:=r1.rel.loop r L _ _ _ _ _ _ hL3 hb3
    have fin:∀(jump:Option Code),endY r (if jump.isNone then .ready else .done) jump (.mk e3 nx3) jump.isNone=y→∃v w',(Instr.endRound L.B jump).run G w3= .ok v w'∧PostC φ e nx w y (.returned v) w':=fun jump hend=>by
     obtain ⟨st4,pe4,t4,ps4,as4,bd4,s1,s2⟩:=endY_ok hend hy
     rw [hb3] at s1
     cases s1
     refine ⟨_,_,run_endRound jump o1,φ3,.bo jump.isNone,_,_,s2,rfl,?_⟩
     exact (hs2.trans r1).obj (x:= .lp (if jump.isNone then .ready else .done) jump tt ps1 as1 bd1) (ob:= .loop {rec3 with state:=if jump.isNone then .ready else .done,pending:=jump}) hL3 (fun b hb=>by rw [At,hb3] at hb;cases hb) (fun _ _ _ _ _ _=>by simp) (fun _ _ hh=>by cases hh)
      (fun st pe t ps as bd hh=>by
       simp only [Ent.lp.injEq] at hh
       obtain ⟨rfl,rfl,rfl,rfl,rfl,rfl⟩:=hh
       exact ⟨hd0,_,rfl,rfl,rfl,o4,o5,o6,o7⟩) (fun _ _ _ _ _ hh=>by rw [hg] at hh;cases hh)
    cases ex with
    |normal=>rw [r4] at hr1;exact fin none hr1
    |ret=>rw [r4] at hr1;exact fin (some .ret) hr1
    |exit i=>rw [r4] at hr1;exact fin (some (.exit i)) hr1
    |goto _=>exact False.elim r4
    |panic _=>exact False.elim r4
    |outgrown=>exact False.elim r4
   |exit i=>cases p4
   |ret=>cases p4
   |goto _=>exact False.elim p4
   |panic _=>exact False.elim p4
   |outgrown=>exact False.elim p4
  |_=>rw [←hr0] at hy;exact False.elim hy
 |_=>rw [hg] at hr0;rw [←hr0] at hy;exact False.elim hy
theorem cfN_ok (hm:G.follows .mixedOrders=true):∀n:Nat,CfOk G (cfN G n)
 |0=>⟨fun f x e nx y hr hy=>(by rw [←hr] at hy;exact False.elim hy),fun r x e nx y hr hy=>(by rw [←hr] at hy;exact False.elim hy)⟩
 | n + 1 => ⟨fun f x e nx y hr hy φ w args h hx => call_ok (cfN_ok hm n) hm (show callB G (cfN G n) f x (.mk e nx) = y from hr) hy h hx,
     fun r x e nx y hr hy φ w args L h hx hL=>round_ok (cfN_ok hm n) hm (show roundY G (cfN G n) r x (.mk e nx)=y from hr) hy h hx hL⟩
theorem rel_empty (w:World):Rel (fun _=>none) .lf (.m .a .a .a .H) w where
 lt p l hp:=by cases hp
 new p _:=gE_lf p
 blk p l b hp:=by cases hp
 map p l es ck hp:=by cases hp
 loop p l st pe t ps as bd hp:=by cases hp
 root p b hb:=by rw [At,gE_lf] at hb;cases hb
 one p q b c hb:=by rw [At,gE_lf] at hb;cases hb
 sep p q lp lq hp:=by cases hp
 ord p q lp lq b c hp:=by cases hp
 mm p b hb:=by rw [At,gE_lf] at hb;cases hb
 rm p b hb:=by rw [At,gE_lf] at hb;cases hb
 mu p q lp lq b c hp:=by cases hp
theorem calls_true (hm:G.follows .mixedOrders=true) {n f:Nat} {h':Hp} (hr:cfN G n (.f f) .ln (.mk .lf (.m .a .a .a .H))= .re (.bo true) h') (w:World):
    Calls G f #[] w fun ex w'=>ex= .returned (.bool true)∧RowKit.Below w.heap.size w w':=by
 obtain ⟨_,h2⟩:=(cfN_ok hm n).f f .ln .lf (.m .a .a .a .H) _ hr trivial (fun _=>none) w #[] (rel_empty w) rfl
 refine callsIn_wide.1 (h2.mono fun ex w' hp=> ?_)
 cases ex with
 |returned v=>
  obtain ⟨φ',b,e',nx',k1,k2,k3⟩:=hp
  cases k1
  have k2':v= .bool true:=k2
  refine ⟨by rw [k2'],?_⟩
  exact ⟨k3.fr.os,k3.fr.tape,k3.fr.output,k3.fr.size,fun k hk=>k3.fr.block k hk fun p l hp=>by cases hp⟩
 |panicked c=>exact False.elim hp
 |outgrown=>exact False.elim hp
end
end Go.Ev
namespace Go.Ev
noncomputable def conF (i:Nat) (l:List Nat):Bool:=List.rec (motive:=fun _=>Bool) false (fun a _ ih=>bB (Nat.beq a i) true ih) l
theorem conF_eq (i:Nat):∀l:List Nat,conF i l=l.contains i
 |[]=>rfl
 |a::l=>by
  show bB (Nat.beq a i) true (conF i l)=_
  rw [conF_eq i l,bB_eq,List.contains_cons]
  cases h:Nat.beq a i with
  |true=>have:=Nat.eq_of_beq_eq_true h;subst this;simp
  |false=>
   have:¬i=a:=fun e=>by subst e;rw [Nat.beq_refl] at h;cases h
   simp [this]
noncomputable def allF (f:Nat→Bool) (l:List Nat):Bool:=List.rec (motive:=fun _=>Bool) true (fun a _ ih=>bB (f a) ih false) l
theorem allF_eq {f g:Nat→Bool} (h:∀x,f x=g x):∀l:List Nat,allF f l=l.all g
 |[]=>rfl
 |a::l=>by
  show bB (f a) (allF f l) false=_
  rw [allF_eq h l,bB_eq,h,List.all_cons]
  cases g a<;>rfl
noncomputable def anyF (f:Nat→Bool) (l:List Nat):Bool:=List.rec (motive:=fun _=>Bool) false (fun a _ ih=>bB (f a) true ih) l
theorem anyF_eq {f g:Nat→Bool} (h:∀x,f x=g x):∀l:List Nat,anyF f l=l.any g
 |[]=>rfl
 |a::l=>by
  show bB (f a) true (anyF f l)=_
  rw [anyF_eq h l,bB_eq,h,List.any_cons]
  cases g a<;>rfl
noncomputable def nthO (l:List Oper):Nat→Option Oper:=List.rec (motive:=fun _=>Nat→Option Oper) (fun _=>none) (fun o _ ih i=>Nat.rec (motive:=fun _=>Option Oper) (some o) (fun j _=>ih j) i) l
theorem nthO_eq:∀(l:List Oper) (i:Nat),nthO l i=l[i]?
 |[],_=>rfl
 |_::_,0=>rfl
 |_::l,i+1=>nthO_eq l i
theorem nthO_arr (ops:Array Oper) (i:Nat):nthO ops.toList i=ops[i]? :=by rw [nthO_eq];simp
noncomputable def depF (l:List Edge):List Nat:=List.rec (motive:=fun _=>List Nat) [] (fun e _ ih=>Bool.rec ih (e.on::ih) (Region.binds .any e)) l
theorem depF_eq (f:Nat→Bool):∀l:List Edge,(depF l).all f=l.all fun e=> !Region.binds .any e||f e.on
 |[]=>rfl
 |e::l=>by
  show (Bool.rec (depF l) (e.on::depF l) (Region.binds .any e):List Nat).all f=_
  rw [List.all_cons,←depF_eq f l]
  cases Region.binds .any e<;>rfl
noncomputable def rdF (l:List Nat):List Oper→Nat→List Nat:=
 List.rec (motive:=fun _=>Nat→List Nat) (fun _=>[]) (fun o _ ih k=>Bool.rec (motive:=fun _=>List Nat) (Bool.rec (motive:=fun _=>List Nat) (ih (Nat.succ k)) (k::ih (Nat.succ k)) (allF (fun i=>conF i l) (depF o.after.toList))) (ih (Nat.succ k)) (conF k l))
noncomputable def readyF (ops:Array Oper) (l:List Nat):List Nat:=rdF l ops.toList 0
theorem rd_key (c b:Bool) (x:List Nat) (k:Nat):(Bool.rec (motive:=fun _=>List Nat) (Bool.rec (motive:=fun _=>List Nat) x (k::x) b) x c:List Nat)=if (!c&&b)=true then k::x else x:=by cases c<;>cases b<;>rfl
theorem rdF_eq (ops:Array Oper) (l:List Nat):∀(L:List Oper) (k:Nat),ops.toList.drop k=L→rdF l L k=(List.range' k L.length).filter fun i=> !l.contains i&&((ops[i]?).map fun o=>o.after.all fun e=> !Region.binds .any e||l.contains e.on).getD false
 |[],_,_=>rfl
 |o::L,k,h=>by
  have hk:ops[k]? =some o:=by
   have:=congrArg List.head? h
   rw [List.head?_drop] at this
   simpa using this
  have ih:=rdF_eq ops l L (k+1) (by rw [←List.drop_drop,h];rfl)
  have e:rdF l (o::L) k=Bool.rec (motive:=fun _=>List Nat) (Bool.rec (motive:=fun _=>List Nat) (rdF l L (k+1)) (k::rdF l L (k+1)) (allF (fun i=>conF i l) (depF o.after.toList))) (rdF l L (k+1)) (conF k l):=rfl
  rw [e,List.length_cons,List.range'_succ,List.filter_cons,hk,ih,conF_eq,allF_eq (g:=fun i=>l.contains i) (fun i=>conF_eq i l),depF_eq]
  simp only [Option.map_some,Option.getD_some,Array.all_toList]
  exact rd_key _ _ _ _
theorem readyF_eq (ops:Array Oper) (l:List Nat):readyF ops l=readyL ops l:=by
 unfold readyL
 rw [List.range_eq_range',←Array.length_toList]
 exact rdF_eq ops l ops.toList 0 rfl
noncomputable def dsF (x:Option Nat) (d:Nat):Bool:=Option.rec (motive:=fun _=>Bool) false (fun a=>Nat.beq a d) x
theorem dsF_eq (x:Option Nat) (d:Nat):dsF x d=(x==some d):=by
 cases x with
 |none=>rfl
 |some a=>
  show Nat.beq a d=_
  cases h:Nat.beq a d with
  |true=>have:=Nat.eq_of_beq_eq_true h;subst this;simp
  |false=>
   have:¬a=d:=fun e=>by subst e;rw [Nat.beq_refl] at h;cases h
   simp [this]
theorem or_if (a b:Bool):(if a then true else b)=(a||b):=by cases a<;>rfl
theorem nor_if (a b:Bool):(if a then false else !b)=(!a&& !b):=by cases a<;>rfl
theorem and_if (a b:Bool):(if a then b else false)=(a&&b):=by cases a<;>rfl
noncomputable def wrF (ops:Array Oper) (l:List Nat) (o:Oper):Bool:=Option.rec (motive:=fun _=>Bool) false (fun d=>bB (conF d (o.looksAt ops)) true (anyF (fun i=>Option.rec (motive:=fun _=>Bool) false (fun p=>bB (dsF p.dst d) true (conF d (p.looksAt ops))) (nthO ops.toList i)) l)) o.dst
theorem wrF_eq (ops:Array Oper) (l:List Nat) (o:Oper):wrF ops l o=wrB ops l o:=by
 unfold wrF wrB
 cases o.dst with
 |none=>rfl
 |some d=>
  show bB (conF d (o.looksAt ops)) true _=_
  rw [bB_eq,conF_eq,anyF_eq (g:=fun i=>match ops[i]? with|some p=>p.dst==some d||(p.looksAt ops).contains d|none=>false) (fun i=>by
   rw [nthO_arr]
   cases ops[i]? with
   |none=>rfl
   |some p=>
    show bB (dsF p.dst d) true (conF d (p.looksAt ops))=_
    rw [bB_eq,dsF_eq,conF_eq]
    exact or_if _ _)]
  exact or_if _ _
noncomputable def apF (ops:Array Oper) (x y:Oper):Bool:=
 bB (Option.rec (motive:=fun _=>Bool) true (fun d=>bB (conF d (y.looksAt ops)) false (bNot (dsF y.dst d))) x.dst) (Option.rec (motive:=fun _=>Bool) true (fun d=>bNot (conF d (x.looksAt ops))) y.dst) false
theorem apF_eq (ops:Array Oper) (x y:Oper):apF ops x y=x.apart ops y:=by
 unfold apF Oper.apart
 have h1:(Option.rec (motive:=fun _=>Bool) true (fun d=>bB (conF d (y.looksAt ops)) false (bNot (dsF y.dst d))) x.dst:Bool)=(match x.dst with|some d=> !(y.looksAt ops).contains d&&y.dst !=some d|none=>true):=by
  cases x.dst with
  |none=>rfl
  |some d=>
   show bB (conF d (y.looksAt ops)) false (bNot (dsF y.dst d))=_
   rw [bB_eq,bNot_eq,conF_eq,dsF_eq]
   exact nor_if _ _
 have h2:(Option.rec (motive:=fun _=>Bool) true (fun d=>bNot (conF d (x.looksAt ops))) y.dst:Bool)=(match y.dst with|some d=> !(x.looksAt ops).contains d|none=>true):=by
  cases y.dst with
  |none=>rfl
  |some d=>show bNot (conF d (x.looksAt ops))=_;rw [bNot_eq,conF_eq]
 rw [h1,h2,bB_eq]
 exact and_if _ _
noncomputable def tbF (b i:Nat):Bool:=Nat.beq (Nat.land (Nat.shiftRight b i) 1) 1
theorem tbF_eq (b i:Nat):tbF b i=b.testBit i:=by
 have h1:Nat.land (Nat.shiftRight b i) 1=(b>>>i)%2:=Nat.and_one_is_mod _
 unfold tbF Nat.testBit
 rw [h1]
 have h2:1&&&b>>>i=(b>>>i)%2:=Nat.one_and_eq_mod_two _
 rw [h2]
 rcases Nat.mod_two_eq_zero_or_one (b>>>i) with e|e<;>rw [e]<;>rfl
noncomputable def abF (ops:Array Oper) (b:Nat) (l:List Nat) (o:Oper):Bool:=allF (fun i=>bB (tbF b i) true (Option.rec (motive:=fun _=>Bool) true (fun p=>apF ops p o) (nthO ops.toList i))) l
theorem abF_eq (ops:Array Oper) (b:Nat) (l:List Nat) (o:Oper):abF ops b l o=apB ops b l o:=by
 unfold abF apB
 exact allF_eq (fun i=>by
  rw [nthO_arr,bB_eq,tbF_eq,or_if]
  cases ops[i]? with
   |none=>rfl
   |some p=>exact congrArg (b.testBit i||·) (apF_eq ops p o)) l
noncomputable def nthN (l:List Nat):Nat→Nat:=List.rec (motive:=fun _=>Nat→Nat) (fun _=>0) (fun a _ ih i=>Nat.rec (motive:=fun _=>Nat) a (fun j _=>ih j) i) l
theorem nthN_eq:∀(l:List Nat) (i:Nat),nthN l i=l.getD i 0
 |[],_=>rfl
 |_::_,0=>rfl
 |a::l,i+1=>(nthN_eq l i).trans (by simp)
noncomputable def bwF (look:Nat→Nat) (l:List Edge):Nat→Nat:=List.rec (motive:=fun _=>Nat→Nat) (fun s=>s) (fun e _ ih s=>Bool.rec (motive:=fun _=>Nat) (ih s) (ih (Nat.lor (Nat.lor s (Nat.pow 2 e.on)) (look e.on))) (Region.binds .any e)) l
noncomputable def lkF (j:Nat) (acc:List Nat) (i:Nat):Nat:=Bool.rec (motive:=fun _=>Nat) 0 (nthN acc (Nat.sub (Nat.sub j 1) i)) (Nat.ble (Nat.succ i) j)
noncomputable def fNl (n:Nat) (K:Nat→List Nat):List Nat:=Nat.rec (motive:=fun _=>List Nat) [] (fun m _=>K m) (Nat.succ n)
noncomputable def blF (l:List Oper):Nat→List Nat→List Nat:=List.rec (motive:=fun _=>Nat→List Nat→List Nat) (fun _ acc=>acc.reverse) (fun o _ ih j acc=>fNl (bwF (lkF j acc) o.after.toList 0) fun v=>ih (Nat.succ j) (v::acc)) l
noncomputable def bF (ops:Array Oper):List Nat:=blF ops.toList 0 []
theorem bwF_eq (look:Nat→Nat):∀(l:List Edge) (s:Nat),bwF look l s=l.foldl (fun s e=>if Region.binds .any e then s ||| 2 ^ e.on ||| look e.on else s) s
 |[],_=>rfl
 |e::l,s=>by
  show Bool.rec (motive:=fun _=>Nat) (bwF look l s) (bwF look l (Nat.lor (Nat.lor s (Nat.pow 2 e.on)) (look e.on))) (Region.binds .any e)=_
  rw [List.foldl_cons]
  cases Region.binds .any e with
  |false=>exact bwF_eq look l s
  |true=>exact bwF_eq look l _
theorem lkF_eq (j:Nat) (acc:List Nat) (i:Nat):lkF j acc i=if i<j then acc.getD (j-1-i) 0 else 0:=by
 unfold lkF
 by_cases h:i<j
 ·rw [Nat.ble_eq_true_of_le h,if_pos h,nthN_eq];rfl
 have : Nat.ble (Nat.succ i) j = false := by
  cases hh:Nat.ble (Nat.succ i) j with
  |false=>rfl
  |true=>exact absurd (Nat.le_of_ble_eq_true hh) h
 rw [this,if_neg h]
theorem blF_eq:∀(l:List Oper) (j:Nat) (acc:List Nat),blF l j acc=CheckFast.beforeL l j acc
 |[],_,_=>rfl
 |o::l,j,acc=>by
  show blF l (Nat.succ j) (bwF (lkF j acc) o.after.toList 0::acc)=_
  rw [CheckFast.beforeL,CheckFast.force_eq,blF_eq l (j+1),bwF_eq]
  unfold CheckFast.one
  rw [←Array.foldl_toList]
  have:lkF j acc=fun i=>if i<j then acc.getD (j-1-i) 0 else 0:=funext (lkF_eq j acc)
  rw [this]
theorem bF_eq (ops:Array Oper) (i:Nat):nthN (bF ops) i=(Region.before ops).getD i 0:=by
 rw [nthN_eq,←CheckFast.beforeF_eq]
 unfold bF CheckFast.beforeF
 rw [blF_eq]
 simp [Array.getD_eq_getD_getElem?,List.getD_eq_getElem?_getD]
section
variable (G:Program)
noncomputable def fbF (ops:Array Oper) (l:List Nat) (i:Nat):Bool:=Option.rec (motive:=fun _=>Bool) false (fun o=>bB (Nat.ble (clX (cOpr G o)) 2) (bNot (wrF ops l o)) false) (nthO ops.toList i)
theorem fbF_eq (ops:Array Oper) (l:List Nat) (i:Nat):fbF G ops l i=flB G ops l i:=by
 unfold fbF flB
 rw [nthO_arr]
 cases ops[i]? with
 |none=>rfl
 |some o=>
  show bB (Nat.ble (clX (cOpr G o)) 2) (bNot (wrF ops l o)) false=_
  have:Nat.ble (clX (cOpr G o)) 2=Nat.blt (clX (cOpr G o)) 3:=rfl
  rw [bB_eq,bNot_eq,wrF_eq,this]
  exact and_if _ _
noncomputable def fiF (f:Nat→Bool) (l:List Nat):Option Nat:=List.rec (motive:=fun _=>Option Nat) none (fun a _ ih=>Bool.rec (motive:=fun _=>Option Nat) ih (some a) (f a)) l
theorem fiF_eq {f g:Nat→Bool} (h:∀x,f x=g x):∀l:List Nat,fiF f l=l.find? g
 |[]=>rfl
 |a::l=>by
  show Bool.rec (motive:=fun _=>Option Nat) (fiF f l) (some a) (f a)=_
  rw [fiF_eq h l,h,List.find?_cons]
  cases g a<;>rfl
noncomputable def ckF (ops:Array Oper) (b:Nat):List Nat→CL:=List.rec (motive:=fun _=>CL) .z (fun i _ ih=>Option.rec (motive:=fun _=>CL) ih (fun o=>Bool.rec (motive:=fun _=>CL) ih (Option.rec (motive:=fun _=>CL) ih (fun g=> .c g (cOpr G o) (cDst o.dst) ih) (cGd ops o.guard)) (bB (Nat.beq (clX (cOpr G o)) 2) (bNot (tbF b i)) false)) (nthO ops.toList i))
theorem ckF_eq (ops:Array Oper) (b:Nat):∀l:List Nat,ckF G ops b l=chkL G ops b l
 |[]=>rfl
 |i::l=>by
  have ih:=ckF_eq ops b l
  have e:ckF G ops b (i::l)=Option.rec (motive:=fun _=>CL) (ckF G ops b l) (fun o=>Bool.rec (motive:=fun _=>CL) (ckF G ops b l) (Option.rec (motive:=fun _=>CL) (ckF G ops b l) (fun g=> .c g (cOpr G o) (cDst o.dst) (ckF G ops b l)) (cGd ops o.guard)) (bB (Nat.beq (clX (cOpr G o)) 2) (bNot (tbF b i)) false)) (nthO ops.toList i):=rfl
  rw [e,nthO_arr]
  unfold chkL
  cases ops[i]? with
  |none=>exact ih
  |some o=>
   show Bool.rec (motive:=fun _=>CL) (ckF G ops b l) (Option.rec (motive:=fun _=>CL) (ckF G ops b l) (fun g=> .c g (cOpr G o) (cDst o.dst) (ckF G ops b l)) (cGd ops o.guard)) (bB (Nat.beq (clX (cOpr G o)) 2) (bNot (tbF b i)) false)=_
   have h1:Nat.beq (clX (cOpr G o)) 2=(clX (cOpr G o)==2):=by cases hh:Nat.beq (clX (cOpr G o)) 2 with
    |true=>rw [Nat.eq_of_beq_eq_true hh];rfl
    |false=>have:=Nat.ne_of_beq_eq_false hh;simp [this]
   have h2:bB (Nat.beq (clX (cOpr G o)) 2) (bNot (tbF b i)) false=(clX (cOpr G o)==2&& !b.testBit i):=by rw [bB_eq,bNot_eq,tbF_eq,h1];exact and_if _ _
   rw [ih,h2]
   show _=(match (clX (cOpr G o)==2&& !b.testBit i),cGd ops o.guard with|true,some g=>CL.c g (cOpr G o) (cDst o.dst) (chkL G ops b l)|_,_=>chkL G ops b l)
   cases (clX (cOpr G o)==2&& !b.testBit i)<;>cases cGd ops o.guard<;>rfl
noncomputable def onF (ops:Array Oper) (bf:List Nat) (l:List Nat) (i:Nat) (ck:CL) (r:SL):SL:=Option.rec (motive:=fun _=>SL) (.bad 132) (fun o=>Bool.rec (motive:=fun _=>SL) (.bad 134) (Option.rec (motive:=fun _=>SL) (.bad 131) (fun g=> .c g (cOpr G o) (cDst o.dst) ck r) (cGd ops o.guard)) (abF ops (nthN bf i) l o)) (nthO ops.toList i)
theorem onF_eq (ops:Array Oper) (l:List Nat) (i:Nat) (ck:CL) (r:SL):onF G ops (bF ops) l i ck r=oneS G ops (Region.before ops) l i ck r:=by
 unfold onF oneS
 rw [nthO_arr]
 cases ops[i]? with
 |none=>rfl
 |some o=>
  show Bool.rec (motive:=fun _=>SL) (.bad 134) (Option.rec (motive:=fun _=>SL) (.bad 131) (fun g=> .c g (cOpr G o) (cDst o.dst) ck r) (cGd ops o.guard)) (abF ops (nthN (bF ops) i) l o)=_
  rw [abF_eq,bF_eq]
  show _=(if apB ops ((Region.before ops).getD i 0) l o then match cGd ops o.guard with|some g=>SL.c g (cOpr G o) (cDst o.dst) ck r|none=>SL.bad 131 else SL.bad 134)
  cases apB ops ((Region.before ops).getD i 0) l o with
  |false=>rfl
  |true=>cases cGd ops o.guard<;>rfl
noncomputable def plF (ops:Array Oper) (bf:List Nat) (n:Nat):List Nat→SL:=
 Nat.rec (motive:=fun _=>List Nat→SL) (fun l=>List.rec (motive:=fun _=>SL) .z (fun _ _ _=> .bad 135) (readyF ops l))
  (fun _ ih l=>List.rec (motive:=fun _=>SL) .z (fun r rs _=>Option.rec (motive:=fun _=>SL) (List.rec (motive:=fun _=>SL) (onF G ops bf l r (ckF G ops (nthN bf r) l) (ih (r::l))) (fun _ _ _=> .bad 133) rs) (fun i=>onF G ops bf l i .z (ih (i::l))) (fiF (fbF G ops l) (r::rs))) (readyF ops l)) n
theorem plF_eq (ops:Array Oper):∀(n:Nat) (l:List Nat),plF G ops (bF ops) n l=planS G ops (Region.before ops) n l
 |0,l=>by
  show List.rec (motive:=fun _=>SL) .z (fun _ _ _=> .bad 135) (readyF ops l)=_
  unfold planS
  rw [readyF_eq]
  cases readyL ops l<;>rfl
 |n+1,l=>by
  have e:plF G ops (bF ops) (n+1) l=List.rec (motive:=fun _=>SL) .z (fun r rs _=>Option.rec (motive:=fun _=>SL) (List.rec (motive:=fun _=>SL) (onF G ops (bF ops) l r (ckF G ops (nthN (bF ops) r) l) (plF G ops (bF ops) n (r::l))) (fun _ _ _=> .bad 133) rs) (fun i=>onF G ops (bF ops) l i .z (plF G ops (bF ops) n (i::l))) (fiF (fbF G ops l) (r::rs))) (readyF ops l):=rfl
  rw [e]
  unfold planS
  rw [readyF_eq]
  cases readyL ops l with
  |nil=>rfl
  |cons r rs=>
   show Option.rec (motive:=fun _=>SL) (List.rec (motive:=fun _=>SL) (onF G ops (bF ops) l r (ckF G ops (nthN (bF ops) r) l) (plF G ops (bF ops) n (r::l))) (fun _ _ _=> .bad 133) rs) (fun i=>onF G ops (bF ops) l i .z (plF G ops (bF ops) n (i::l))) (fiF (fbF G ops l) (r::rs))=_
   rw [fiF_eq (g:=flB G ops l) (fbF_eq G ops l)]
   cases hf:(r::rs).find? (flB G ops l) with
   |some i=>
    simp only [hf]
    rw [←plF_eq ops n (i::l)];exact onF_eq G ops l i .z _
   |none=>
    simp only [hf]
    cases rs with
    |nil=>
     show onF G ops (bF ops) l r (ckF G ops (nthN (bF ops) r) l) (plF G ops (bF ops) n (r::l))=_
     rw [onF_eq,ckF_eq,bF_eq,plF_eq ops n (r::l)]
    |cons _ _=>rfl
noncomputable def stepsF (ops:Array Oper):Bool→SL:=Bool.rec (motive:=fun _=>SL) (seqS G ops ops.toList) (plF G ops (bF ops) (lenOps ops.toList) [])
where lenOps (l:List Oper):Nat:=List.rec (motive:=fun _=>Nat) 0 (fun _ _ n=>Nat.succ n) l
theorem stepsF_eq (ops:Array Oper) (b:Bool):stepsF G ops b=stepsOf G ops b:=by
 cases b with
 |false=>rfl
 |true=>
  show plF G ops (bF ops) (stepsF.lenOps ops.toList) []=planS G ops (Region.before ops) ops.size []
  have h:∀l:List Oper,stepsF.lenOps l=l.length:=fun l=>by
   induction l with
   |nil=>rfl
   |cons a l ih=>show Nat.succ (stepsF.lenOps l)=_;rw [ih];rfl
  rw [h,Array.length_toList]
  exact plF_eq G ops _ _
end
end Go.Ev
namespace Go.Ev
inductive GX where
 |m (f:TV→(AV→X)→X)
inductive KF where
 |m (f:CF→KX)
noncomputable def r1a (w:W1) (K:AV→X) (N:X):X:=W1.rec (motive:=fun _=>X) (fun a _ _ _ _ _ _ _=>SV.rec (motive:=fun _=>X) N (fun v=>K v) a) w
noncomputable def r1b (w:W1) (K:AV→X) (N:X):X:=W1.rec (motive:=fun _=>X) (fun _ b _ _ _ _ _ _=>SV.rec (motive:=fun _=>X) N (fun v=>K v) b) w
noncomputable def r1c (w:W1) (K:AV→X) (N:X):X:=W1.rec (motive:=fun _=>X) (fun _ _ c _ _ _ _ _=>SV.rec (motive:=fun _=>X) N (fun v=>K v) c) w
noncomputable def r1d (w:W1) (K:AV→X) (N:X):X:=W1.rec (motive:=fun _=>X) (fun _ _ _ d _ _ _ _=>SV.rec (motive:=fun _=>X) N (fun v=>K v) d) w
noncomputable def r1e (w:W1) (K:AV→X) (N:X):X:=W1.rec (motive:=fun _=>X) (fun _ _ _ _ e _ _ _=>SV.rec (motive:=fun _=>X) N (fun v=>K v) e) w
noncomputable def r1f (w:W1) (K:AV→X) (N:X):X:=W1.rec (motive:=fun _=>X) (fun _ _ _ _ _ f _ _=>SV.rec (motive:=fun _=>X) N (fun v=>K v) f) w
noncomputable def r1g (w:W1) (K:AV→X) (N:X):X:=W1.rec (motive:=fun _=>X) (fun _ _ _ _ _ _ g _=>SV.rec (motive:=fun _=>X) N (fun v=>K v) g) w
noncomputable def r1h (w:W1) (K:AV→X) (N:X):X:=W1.rec (motive:=fun _=>X) (fun _ _ _ _ _ _ _ h=>SV.rec (motive:=fun _=>X) N (fun v=>K v) h) w
noncomputable def r2a (w:W2) (F:W1→X):X:=W2.rec (motive:=fun _=>X) (fun a _ _ _ _ _ _ _=>F a) w
noncomputable def r2b (w:W2) (F:W1→X):X:=W2.rec (motive:=fun _=>X) (fun _ b _ _ _ _ _ _=>F b) w
noncomputable def r2c (w:W2) (F:W1→X):X:=W2.rec (motive:=fun _=>X) (fun _ _ c _ _ _ _ _=>F c) w
noncomputable def r2d (w:W2) (F:W1→X):X:=W2.rec (motive:=fun _=>X) (fun _ _ _ d _ _ _ _=>F d) w
noncomputable def r2e (w:W2) (F:W1→X):X:=W2.rec (motive:=fun _=>X) (fun _ _ _ _ e _ _ _=>F e) w
noncomputable def r2f (w:W2) (F:W1→X):X:=W2.rec (motive:=fun _=>X) (fun _ _ _ _ _ f _ _=>F f) w
noncomputable def r2g (w:W2) (F:W1→X):X:=W2.rec (motive:=fun _=>X) (fun _ _ _ _ _ _ g _=>F g) w
noncomputable def r2h (w:W2) (F:W1→X):X:=W2.rec (motive:=fun _=>X) (fun _ _ _ _ _ _ _ h=>F h) w
noncomputable def d1:D→((W1→(AV→X)→X→X)→GX)→GX:=D.rec (motive:=fun _=>((W1→(AV→X)→X→X)→GX)→GX) (fun K=>K r1a) (fun K=>K r1b) (fun K=>K r1c) (fun K=>K r1d) (fun K=>K r1e) (fun K=>K r1f) (fun K=>K r1g) (fun K=>K r1h)
noncomputable def d2:D→((W2→(W1→X)→X)→GX)→GX:=D.rec (motive:=fun _=>((W2→(W1→X)→X)→GX)→GX) (fun K=>K r2a) (fun K=>K r2b) (fun K=>K r2c) (fun K=>K r2d) (fun K=>K r2e) (fun K=>K r2f) (fun K=>K r2g) (fun K=>K r2h)
noncomputable def fVX:AV→(AV→X)→X:=
 AV.rec (motive:=fun _=>(AV→X)→X) (fun K=>K .ln) (fun h t _ _ K=>K (.lc h t)) (fun b K=>K (.bo b)) (fun k n K=>K (.it k n)) (fun s K=>K (.st s)) (fun b o K=>K (.pt b o)) (fun g o K=>K (.gp g o)) (fun K=>K .pn) (fun b o n c K=>K (.sl b o n c)) (fun b o n z K=>K (.su b o n z)) (fun K=>K .sn) (fun K=>K .se) (fun r K=>K (.mp r)) (fun K=>K .mn) (fun f x y _ _ K=>K (.fn f x y)) (fun K=>K .fz) (fun r K=>K (.yl r)) (fun t v _ K=>K (.fc t v)) (fun K=>K .fcn) (fun l _ K=>K (.ag l)) (fun l _ K=>K (.tu l))
noncomputable def rdS:S→GX:=S.rec (motive:=fun _=>GX) (fun x y=>d1 x fun A=>d2 y fun B=> .m fun t K=>TV.rec (motive:=fun _=>X) (fun w _=>B w fun u=>A u K (K undefA)) t) (fun p=> .m fun t K=>fVX (gU p (tU t)) K)
noncomputable def mvF (x:Od) (d:MP) (nx:CF→KX):KF:=
 MP.rec (motive:=fun _=>KF) (.m nx) (fun p=>SF.rec (motive:=fun _=>KF) (fun st=>
  Od.rec (motive:=fun _=>KF) (fun q=>GX.rec (motive:=fun _=>KF) (fun rd=> .m fun cf t ds h=>rd t fun v=>st t v fun t=>nx cf t ds h) (rdS q)) (fun a=> .m fun cf t ds h=>st t a fun t=>nx cf t ds h) x) (sF p)) d
noncomputable def opF (fx:TV→Hp→R) (d:MP) (nx:CF→KX):KF:=
 MP.rec (motive:=fun _=>KF) (.m fun cf t ds h=>R.rec (motive:=fun _=>X) (fun n=> .bad n) (fun _ h=>nx cf t ds h) (fun f x h=>onY (cf (.f f) x h) fun _ h=>nx cf t ds h) (fun r x h=>onY (cf (.y r) x h) fun _ h=>nx cf t ds h) (fx t h))
  (fun p=>SF.rec (motive:=fun _=>KF) (fun st=> .m fun cf t ds h=>R.rec (motive:=fun _=>X) (fun n=> .bad n) (fun a h=>st t a fun t=>nx cf t ds h) (fun f x h=>onY (cf (.f f) x h) fun a h=>st t a fun t=>nx cf t ds h) (fun r x h=>onY (cf (.y r) x h) fun a h=>st t a fun t=>nx cf t ds h) (fx t h)) (sF p)) d
noncomputable def geF (g:Gd) (fx:TV→Hp→R) (d:MP) (ck:CL) (nx:CF→KX):KF:=
 .m fun cf t ds h=>bX (wantG g t) (stepR (fx t h) cf d ck t ds (nx cf)) (putD d t undefA fun t=>nx cf t ds h)
noncomputable def isMv:XO→(Od→KF)→KF→KF:=XO.rec (motive:=fun _=>(Od→KF)→KF→KF) (fun x K _=>K x) (fun _ _ _ _ N=>N) (fun _ _ _ N=>N) (fun _ _ N=>N) (fun _ _ _ N=>N) (fun _ _ _ _ _ N=>N) (fun _ _ _ N=>N) (fun _ _ _ _ N=>N) (fun _ _ N=>N) (fun _ _ _ _ N=>N) (fun _ _ _ _ N=>N) (fun _ _ _ _ _ N=>N) (fun _ _ _ N=>N) (fun _ _ _ N=>N) (fun _ _ N=>N) (fun _ _ _ N=>N) (fun _ _ _ _ N=>N) (fun _ _ N=>N) (fun _ _ _ _ _ N=>N) (fun _ _ _ _ _ _ N=>N) (fun _ _ _ _ _ _ _ N=>N) (fun _ _ _ N=>N) (fun _ _ _ _ N=>N) (fun _ _ _ _ N=>N) (fun _ _ _ _ _ N=>N) (fun _ _ _ N=>N) (fun _ _ _ _ _ _ N=>N) (fun _ _ _ _ _ _ N=>N) (fun _ _ _ _ _ N=>N) (fun _ _ _ N=>N) (fun _ _ _ _ N=>N) (fun _ _ _ _ _ N=>N) (fun _ _ N=>N) (fun _ _ N=>N) (fun _ _ N=>N) (fun _ _ _ _ N=>N) (fun _ _ _ _ N=>N) (fun _ _ _ N=>N) (fun _ _ _ _ _ N=>N) (fun _ _ N=>N) (fun _ _ N=>N) (fun _ _ _ _ _ N=>N) (fun _ _ _ N=>N) (fun _ _ _ _ _ N=>N) (fun _ _ N=>N)
noncomputable def stF (g:Gd) (x:XO) (d:MP) (ck:CL) (nx:CF→KX):KF:=
 Gd.rec (motive:=fun _=>KF) (CL.rec (motive:=fun _=>KF) (isMv x (fun y=>mvF y d nx) (FX.rec (motive:=fun _=>KF) (fun fx=>opF fx d nx) (evF x))) (fun g' x' d' r _=>FX.rec (motive:=fun _=>KF) (fun fx=>geF .z fx d (.c g' x' d' r) nx) (evF x)) ck)
  (fun p w=>FX.rec (motive:=fun _=>KF) (fun fx=>geF (.g p w) fx d ck nx) (evF x)) g
noncomputable def ruF:SL→KF:=SL.rec (motive:=fun _=>KF) (.m fun _ t ds h=> .no t ds h) (fun g x d ck _ ih=>KF.rec (motive:=fun _=>KF) (fun nx=>stF g x d ck nx) ih) (fun n=> .m fun _ _ _ _=> .bad n)
noncomputable def exF:Code→CX:=
 Code.rec (motive:=fun _=>CX)
  (fun _ _ _ t d h=> .no t d h)
  (fun _ ops dr G cf _=>KF.rec (motive:=fun _=>KX) (fun f=>f cf) (ruF (stepsF G ops dr)))
  (fun _ _ a b G cf ro t d h=>thenX (a G cf ro t d h) (b G cf ro))
  (fun c _ _ a b G cf ro t d h=>condX (evO (cOd c) t) (a G cf ro t d h) (b G cf ro t d h))
  (fun id _ b G cf ro t d h=>outX id (b G cf ro t d h))
  (fun _ b G cf ro=>loopX 1000000 (b G cf ro))
  (fun g ps as bd _ _ _ cf ro t d h=>bX (Nat.ble ro 1) (rfR cf (newE (.lp .ready none t (ps.toList.map toS) as bd) h fun q h=>caA (evO (cOd g) t) (.lc (.yl q) .ln) h) fun h1=>endRf (hN h) t (marks ro d) h1) (.bad 152))
  (fun i _ _ _ t d h=> .ex i t d h)
  (fun _ _ _ _ _ _ _ _=> .bad 153)
  (fun _ _ _ _ t d h=> .no t d h)
  (fun _ _ _ _ _ _ _=> .bad 150)
  (fun _ _ _ t d h=> .re t d h)
  (fun _ _ _ _ _ _ _=> .bad 151)
noncomputable def caF (G:Program) (cf:CF) (f:Nat) (x:AV) (h:Hp):Y:=
 FI.rec (motive:=fun _=>Y) (.bad 162) (fun n t rs c=>Bool.rec (motive:=fun _=>Y) (.bad 163) (finX rs (setAs x 0 t fun t=>exF c G cf 0 t .z h)) (Nat.ble (lenA x) n)) (fnI G f)
noncomputable def roF (G:Program) (cf:CF) (r:P) (x:AV) (h:Hp):Y:=
 Ent.rec (motive:=fun _=>Y) (.bad 170) (fun _ _ _ _ _ _=> .bad 170) (fun _ _=> .bad 170)
  (fun st _ t ps as bd=>LoopState.rec (motive:=fun _=>Y)
   (endX r (setPs ps x t fun t1=>noX (exF as G cf 2 t1 .z h) fun t1 d h=>beginX r h fun h=>exF bd G cf 1 t1 d h))
   (.bad 171) (.bad 171) (.bad 171) st) (gE r (hE h))
noncomputable def cfF (G:Program) (n:Nat):CF:=
 Nat.rec (motive:=fun _=>CF) (fun _ _ _=> .bad 180) (fun _ ih ca x h=>CA.rec (motive:=fun _=>Y) (fun f=>caF G ih f x h) (fun r=>roF G ih r x h) ca) n
noncomputable def GX.f:GX→TV→(AV→X)→X:=GX.rec fun f=>f
noncomputable def KF.f:KF→CF→KX:=KF.rec fun f=>f
theorem fVX_eq (a:AV) (K:AV→X):fVX a K=K a:=by cases a<;>rfl
noncomputable def R1:D→W1→(AV→X)→X→X:=D.rec (motive:=fun _=>W1→(AV→X)→X→X) r1a r1b r1c r1d r1e r1f r1g r1h
noncomputable def R2:D→W2→(W1→X)→X:=D.rec (motive:=fun _=>W2→(W1→X)→X) r2a r2b r2c r2d r2e r2f r2g r2h
theorem R1_eq (x:D) (u:W1) (K:AV→X) (N:X):R1 x u K N=SV.rec (motive:=fun _=>X) N (fun v=>K v) (W1.get x u):=by cases u;cases x<;>rfl
theorem R2_eq (x:D) (w:W2) (F:W1→X):R2 x w F=F (W2.get x w):=by cases w;cases x<;>rfl
theorem rdS_s (x y:D):(rdS (.s x y))= .m fun t K=>TV.rec (motive:=fun _=>X) (fun w _=>R2 y w fun u=>R1 x u K (K undefA)) t:=by cases x<;>cases y<;>rfl
theorem rdS_eq (p:S) (t:TV) (K:AV→X):(rdS p).f t K=K (gV p t):=by
 obtain ⟨w,r⟩:=t
 cases p with
 |l p=>exact fVX_eq _ K
 |s x y=>
  rw [gV_s,rdS_s]
  show R2 y w (fun u=>R1 x u K (K undefA))=_
  rw [R2_eq,R1_eq]
  unfold svG
  cases W1.get x (W2.get y w)<;>rfl
theorem FX_eq (x:XO) {f:TV→Hp→R} (h:evF x= .m f) (t:TV) (hp:Hp):f t hp=evX x t hp:=by
 show _=FX.rec (motive:=fun _=>R) (fun f=>f t hp) (evF x)
 rw [h]
theorem SF_eq (p:S) {f:TV→AV→(TV→X)→X} (h:sF p= .m f) (t:TV) (v:AV) (K:TV→X):f t v K=sV p t v K:=by
 show _=SF.rec (motive:=fun _=>X) (fun f=>f t v K) (sF p)
 rw [h]
theorem step_mv (y:Od) (d:MP) (K:KX) (cf:CF) (t:TV) (ds:DS) (h:Hp):stepX .z (.mv y) d .z K cf t ds h=putD d t (evO y t) fun t=>K t ds h:=by
 show stepR (fV (evO y t) fun v=> .v v h) cf d .z t ds K=_
 rw [fV_eq];rfl
theorem mvF_eq (y:Od) (d:MP) (nx:CF→KX) (cf:CF) (t:TV) (ds:DS) (h:Hp):(mvF y d nx).f cf t ds h=putD d t (evO y t) fun t=>nx cf t ds h:=by
 cases d with
 |z=>rfl
 |s p=>
  show (SF.rec (motive:=fun _=>KF) (fun st=>Od.rec (motive:=fun _=>KF) (fun q=>GX.rec (motive:=fun _=>KF) (fun rd=> .m fun cf t ds h=>rd t fun v=>st t v fun t=>nx cf t ds h) (rdS q)) (fun a=> .m fun cf t ds h=>st t a fun t=>nx cf t ds h) y) (sF p)).f cf t ds h=sV p t (evO y t) fun t=>nx cf t ds h
  cases hs:sF p with
  |m st=>
   cases y with
   |k a=>exact SF_eq p hs _ _ _
   |t q=>
    have e:=rdS_eq q t fun v=>st t v fun t=>nx cf t ds h
    show (GX.rec (motive:=fun _=>KF) (fun rd=> .m fun cf t ds h=>rd t fun v=>st t v fun t=>nx cf t ds h) (rdS q)).f cf t ds h=sV p t (gV q t) fun t=>nx cf t ds h
    cases hr:rdS q with
    |m rd=>
     rw [hr] at e
     exact e.trans (SF_eq p hs _ _ _)
theorem opF_eq (x:XO) {fx:TV→Hp→R} (hx:evF x= .m fx) (d:MP) (nx:CF→KX) (cf:CF) (t:TV) (ds:DS) (h:Hp):(opF fx d nx).f cf t ds h=stepX .z x d .z (nx cf) cf t ds h:=by
 have e:stepX .z x d .z (nx cf) cf t ds h=stepR (evX x t h) cf d .z t ds (nx cf):=rfl
 rw [e,←FX_eq x hx]
 cases d with
 |z=>
  show R.rec (motive:=fun _=>X) (fun n=> .bad n) (fun _ h=>nx cf t ds h) (fun f x h=>onY (cf (.f f) x h) fun _ h=>nx cf t ds h) (fun r x h=>onY (cf (.y r) x h) fun _ h=>nx cf t ds h) (fx t h)=_
  cases fx t h<;>rfl
 |s p=>
  show (SF.rec (motive:=fun _=>KF) (fun st=> .m fun cf t ds h=>R.rec (motive:=fun _=>X) (fun n=> .bad n) (fun a h=>st t a fun t=>nx cf t ds h) (fun f x h=>onY (cf (.f f) x h) fun a h=>st t a fun t=>nx cf t ds h) (fun r x h=>onY (cf (.y r) x h) fun a h=>st t a fun t=>nx cf t ds h) (fx t h)) (sF p)).f cf t ds h=_
  cases hs:sF p with
  |m st=>
   show R.rec (motive:=fun _=>X) (fun n=> .bad n) (fun a h=>st t a fun t=>nx cf t ds h) (fun f x h=>onY (cf (.f f) x h) fun a h=>st t a fun t=>nx cf t ds h) (fun r x h=>onY (cf (.y r) x h) fun a h=>st t a fun t=>nx cf t ds h) (fx t h)=_
   cases fx t h with
   |bad n=>rfl
   |v a h=>exact SF_eq p hs _ _ _
   |call f x h=>
    show onY (cf (.f f) x h) _=onY (cf (.f f) x h) _
    congr 1
    funext a h
    exact SF_eq p hs _ _ _
   |yl r x h=>
    show onY (cf (.y r) x h) _=onY (cf (.y r) x h) _
    congr 1
    funext a h
    exact SF_eq p hs _ _ _
theorem isMv_eq (x:XO) (K:Od→KF) (N:KF):(∃y,x= .mv y∧isMv x K N=K y)∨isMv x K N=N:=by
 cases x<;>first|exact .inl ⟨_,rfl,rfl⟩|exact .inr rfl
theorem stF_eq (g:Gd) (x:XO) (d:MP) (ck:CL) (nx:CF→KX) (cf:CF) (t:TV) (ds:DS) (h:Hp):(stF g x d ck nx).f cf t ds h=stepX g x d ck (nx cf) cf t ds h:=by
 cases hx:evF x with
 |m fx=>
  have hg:∀g ck,(geF g fx d ck nx).f cf t ds h=stepX g x d ck (nx cf) cf t ds h:=fun g ck=>by
   show bX (wantG g t) (stepR (fx t h) cf d ck t ds (nx cf)) (putD d t undefA fun t=>nx cf t ds h)=bX (wantG g t) (stepR (evX x t h) cf d ck t ds (nx cf)) (putD d t undefA fun t=>nx cf t ds h)
   rw [FX_eq x hx]
  cases g with
  |g p w=>
   show (FX.rec (motive:=fun _=>KF) (fun fx=>geF (.g p w) fx d ck nx) (evF x)).f cf t ds h=_
   rw [hx];exact hg _ _
  |z=>
   cases ck with
   |c g' x' d' r=>
    show (FX.rec (motive:=fun _=>KF) (fun fx=>geF .z fx d (.c g' x' d' r) nx) (evF x)).f cf t ds h=_
    rw [hx];exact hg _ _
   |z=>
    show (isMv x (fun y=>mvF y d nx) (FX.rec (motive:=fun _=>KF) (fun fx=>opF fx d nx) (evF x))).f cf t ds h=_
    rcases isMv_eq x (fun y=>mvF y d nx) (FX.rec (motive:=fun _=>KF) (fun fx=>opF fx d nx) (evF x)) with ⟨y,rfl,e⟩|e
    ·rw [e,mvF_eq,step_mv]
    rw [e,hx];exact opF_eq x hx d nx cf t ds h
theorem ruF_eq:∀(s:SL) (cf:CF) (t:TV) (ds:DS) (h:Hp),(ruF s).f cf t ds h=runS s cf t ds h
 | .z,_,_,_,_=>rfl
 | .bad _,_,_,_,_=>rfl
 | .c g x d ck r,cf,t,ds,h=>by
  have ih:=ruF_eq r
  show (KF.rec (motive:=fun _=>KF) (fun nx=>stF g x d ck nx) (ruF r)).f cf t ds h=stepX g x d ck (runS r cf) cf t ds h
  cases hr:ruF r with
  |m nx=>
   have e:nx=runS r:=by
    funext cf t ds h
    have:=ih cf t ds h
    rw [hr] at this;exact this
   subst e
   exact stF_eq g x d ck _ cf t ds h
theorem exF_eq (G:Program) (cf:CF):∀(c:Code) (ro:Nat),exF c G cf ro=exec c G cf ro
 | .skip,_=>rfl
 | .region _ ops dr,ro=>by
  funext t ds h
  have e:=ruF_eq (stepsOf G ops dr) cf t ds h
  show (KF.rec (motive:=fun _=>KX) (fun f=>f cf) (ruF (stepsF G ops dr))) t ds h=runS (stepsOf G ops dr) cf t ds h
  rw [←e,stepsF_eq]
  cases hq:ruF (stepsOf G ops dr) with
  |m f=>rfl
 | .seq a b,ro=>by
  funext t ds h
  show thenX (exF a G cf ro t ds h) (exF b G cf ro)=thenX (exec a G cf ro t ds h) (exec b G cf ro)
  rw [exF_eq G cf a,exF_eq G cf b]
 | .cond c a b,ro=>by
  funext t ds h
  show condX (evO (cOd c) t) (exF a G cf ro t ds h) (exF b G cf ro t ds h)=condX (evO (cOd c) t) (exec a G cf ro t ds h) (exec b G cf ro t ds h)
  rw [exF_eq G cf a,exF_eq G cf b]
 | .block id b,ro=>by
  funext t ds h
  show outX id (exF b G cf ro t ds h)=outX id (exec b G cf ro t ds h)
  rw [exF_eq G cf b]
 | .loop b,ro=>by
  funext t ds h
  show loopX 1000000 (exF b G cf ro) t ds h=loopX 1000000 (exec b G cf ro) t ds h
  rw [exF_eq G cf b]
 | .rangeFunc g ps as bd,ro=>rfl
 | .exit i,_=>rfl
 | .scope b,ro=>rfl
 | .goto _,_=>rfl
 | .ret,_=>rfl
 | .label _,_=>rfl
 | .refuse _,_=>rfl
theorem caF_eq (G:Program) (cf:CF) (f:Nat) (x:AV) (h:Hp):caF G cf f x h=callB G cf f x h:=by
 show FI.rec (motive:=fun _=>Y) (.bad 162) (fun n t rs c=>Bool.rec (motive:=fun _=>Y) (.bad 163) (finX rs (setAs x 0 t fun t=>exF c G cf 0 t .z h)) (Nat.ble (lenA x) n)) (fnI G f)=FI.rec (motive:=fun _=>Y) (.bad 162) (fun n t rs c=>Bool.rec (motive:=fun _=>Y) (.bad 163) (finX rs (setAs x 0 t fun t=>exec c G cf 0 t .z h)) (Nat.ble (lenA x) n)) (fnI G f)
 cases fnI G f with
 |bad=>rfl
 |mk n t rs c=>
  show Bool.rec (motive:=fun _=>Y) (.bad 163) (finX rs (setAs x 0 t fun t=>exF c G cf 0 t .z h)) (Nat.ble (lenA x) n)=Bool.rec (motive:=fun _=>Y) (.bad 163) (finX rs (setAs x 0 t fun t=>exec c G cf 0 t .z h)) (Nat.ble (lenA x) n)
  rw [exF_eq]
theorem roF_eq (G:Program) (cf:CF) (r:P) (x:AV) (h:Hp):roF G cf r x h=roundY G cf r x h:=by
 have e:∀(as bd:Code) (t:TV),(setPs · x t fun t1=>noX (exF as G cf 2 t1 .z h) fun t1 d h=>beginX r h fun h=>exF bd G cf 1 t1 d h)=(setPs · x t fun t1=>noX (exec as G cf 2 t1 .z h) fun t1 d h=>beginX r h fun h=>exec bd G cf 1 t1 d h):=fun as bd t=>by
  rw [exF_eq G cf as,exF_eq G cf bd]
 show Ent.rec (motive:=fun _=>Y) (.bad 170) (fun _ _ _ _ _ _=> .bad 170) (fun _ _=> .bad 170) (fun st _ t ps as bd=>LoopState.rec (motive:=fun _=>Y) (endX r (setPs ps x t fun t1=>noX (exF as G cf 2 t1 .z h) fun t1 d h=>beginX r h fun h=>exF bd G cf 1 t1 d h)) (.bad 171) (.bad 171) (.bad 171) st) (gE r (hE h))
  =Ent.rec (motive:=fun _=>Y) (.bad 170) (fun _ _ _ _ _ _=> .bad 170) (fun _ _=> .bad 170) (fun st _ t ps as bd=>LoopState.rec (motive:=fun _=>Y) (endX r (setPs ps x t fun t1=>noX (exec as G cf 2 t1 .z h) fun t1 d h=>beginX r h fun h=>exec bd G cf 1 t1 d h)) (.bad 171) (.bad 171) (.bad 171) st) (gE r (hE h))
 cases gE r (hE h) with
 |lp st pe t ps as bd=>
  cases st with
  |ready=>exact congrArg (endX r) (congrFun (e as bd t) ps)
  |_=>rfl
 |_=>rfl
theorem cfF_eq (G:Program):∀n,cfF G n=cfN G n
 |0=>rfl
 |n+1=>by
  have ih:=cfF_eq G n
  funext ca x h
  cases ca with
  |f k=>show caF G (cfF G n) k x h=callB G (cfN G n) k x h;rw [ih];exact caF_eq G _ k x h
  |y r=>show roF G (cfF G n) r x h=roundY G (cfN G n) r x h;rw [ih];exact roF_eq G _ r x h
noncomputable def yesY:Y→Bool:=Y.rec (fun _=>false) fun v _=>AV.rec (motive:=fun _=>Bool) (false) (fun _ _ _ _=>false) (fun b=>b) (fun _ _=>false) (fun _=>false) (fun _ _=>false) (fun _ _=>false) (false) (fun _ _ _ _=>false) (fun _ _ _ _=>false) (false) (false) (fun _=>false) (false) (fun _ _ _ _ _=>false) (false) (fun _=>false) (fun _ _ _=>false) (false) (fun _ _=>false) (fun _ _=>false) v
theorem yesY_ok {y:Y} (h:yesY y=true):∃hp,y= .re (.bo true) hp:=by
 cases y with
 |bad n=>cases h
 |re v hp=>cases v<;>first|(rename_i b;cases b<;>first|exact ⟨hp,rfl⟩|exact nomatch (show false=true from h))|exact nomatch (show false=true from h)
theorem calls_yes {G:Program} (hm:G.follows .mixedOrders=true) {n f:Nat} (hr:yesY (cfF G n (.f f) .ln (.mk .lf (.m .a .a .a .H)))=true) (w:World):
    Calls G f #[] w fun ex w'=>ex= .returned (.bool true)∧RowKit.Below w.heap.size w w':=by
 obtain ⟨hp,e⟩:=yesY_ok hr
 rw [cfF_eq] at e
 exact calls_true hm e w
end Go.Ev
