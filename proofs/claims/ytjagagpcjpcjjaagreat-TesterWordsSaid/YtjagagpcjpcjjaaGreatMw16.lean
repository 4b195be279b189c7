/- Lemmas, each with its own conditions. -/
import Derived.Test.YtjagagpcjpcjjaaGreatMw7
import Derived.Maps.OwnSet
import Derived.WideKeyArr2
set_option maxRecDepth 100000
set_option maxHeartbeats 32000000
namespace Go.Proofs.YtjagagpcjpcjjaaGreat
open Go.RowKit
theorem JN {v:Int} (h:i64 v):(Lit.int .i64 v).wf=true:=by
 have h1:IntKind.i64.min= -9223372036854775808:=by decide
 have h2:IntKind.i64.max=9223372036854775807:=by decide
 unfold i64 at h;simp only [Lit.wf,h1,h2];simp;omega
structure LH (P:Program) (k:TypeId) (K:Type) where
 enc:K->Value
 ok:K->Prop
 law:Maps.Keyed P k
 ex:∀x,ok x->∃kl,keyOf P k (enc x)=some kl
 inj:∀x y,ok x->ok y->enc x=enc y->x=y
def KM {P:Program} {k:TypeId} {K:Type} (E:LH P k K) (e:TypeId) (w:World) (b n q:Nat) (f:K->Option Int):Prop:=
 ∃D:DataW Unit,w.ownsMap P k (plainElem P e) b n D/\Maps.size D=q/\∀x,E.ok x->∀kl,keyOf P k (E.enc x)=some kl->
  Maps.has D kl=(f x).isSome/\∀v,f x=some v->D.atKey kl (.lit (.int .i64 0))= .lit (.int .i64 v)
section
variable {P:Program} {k t e:TypeId} {K:Type} {E:LH P k K} {w w':World} {b n q:Nat} {f:K->Option Int}
theorem KM.made (w:World):KM E e (w.alloc (.map #[] 0)) w.heap.size 0 0 (fun _=>none):=
 ⟨.map [],World.ownsMap_made _ _ _ _,rfl,fun _ _ _ _=>⟨rfl,fun v h=>by simp at h⟩⟩
theorem KM.kept (h:KM E e w b n q f) (hb:w'.heap[b]? =w.heap[b]?):KM E e w' b n q f:=by
 obtain ⟨D,⟨es,clock,h1,h2⟩,h3⟩:=h;exact ⟨D,⟨es,clock,hb.trans h1,h2⟩,h3⟩
theorem KM.lt (h:KM E e w b n q f):b<w.heap.size:=by
 obtain ⟨D,h1,_⟩:=h;exact h1.lt
theorem KM.size_le (h:KM E e w b n q f):q<=n:=by
 obtain ⟨D,h1,h2,_⟩:=h;rw [<-h2];exact h1.size_le
variable {ops:Array Oper} {rest:List Oper} {o:Oper} {a:Act} {Q:Exit->Act->World->Prop}
theorem xD {mo xo:Operand} (hg:o.guard=none) (hop:o.op= .lookup t mo xo true) (ht:P.underlying t=some (.map k e)) (he:P.underlying e=some (.int .i64)) (hz:(zeroValue e).run P w= .ok (.int .i64 0) w) (hm:a.eval mo= .map (some b)) (jk:KM E e w b n q f) (x:K) (hok:E.ok x) (hx:a.eval xo=E.enc x) (h:∀c,Hid (∀v,f x=some v->c=v)->wpList P ops Q rest (a.put o.dst (.tuple #[.int .i64 c,.bool (f x).isSome])) w):wpList P ops Q (o::rest) a w:=by
 obtain ⟨D,h1,h2,h3⟩:=jk;obtain ⟨kl,hkl⟩:=E.ex x hok;obtain ⟨h4,h5⟩:=h3 x hok kl hkl;refine wpList_lookup_own_ok_int w hg mo xo t hop k e .i64 E.law ht he hz b n D hm h1 (E.enc x) kl hx hkl fun c hat _=> ?_;rw [h4];refine h c fun v hv=> ?_;have:=(h5 v hv).symm.trans hat;simpa using this.symm
theorem ze {mo:Operand} (hg:o.guard=none) (hop:o.op= .call {callee:= .builtin .len,args:= #[mo],argTypes:= #[t]}) (ht:P.underlying t=some (.map k e)) (hm:a.eval mo= .map (some b)) (jk:KM E e w b n q f) (h:wpList P ops Q rest (a.put o.dst (.int .i64 q)) w):wpList P ops Q (o::rest) a w:=by
 obtain ⟨D,h1,h2,h3⟩:=jk;refine wpList_len_own w hg mo t hop k e ht (plainElem P e) b n D hm h1 ?_;rw [h2];exact h
theorem Jb {mo xo vo:Operand} (hg:o.guard=none) (hop:o.op= .mapUpdate t mo xo vo) (ht:P.underlying t=some (.map k e)) (he:P.underlying e=some (.int .i64)) (hm:a.eval mo= .map (some b)) (jk:KM E e w b n q f) (hn:n<1000000000000) (x:K) (hok:E.ok x) (hx:a.eval xo=E.enc x) (v:Int) (hv:a.eval vo= .int .i64 v) (hv1:i64 v) (h:∀(w':World) (f':K->Option Int),Hid (f' x=some v/\∀y,E.ok y->y≠x->f' y=f y)->KM E e w' b (n+1) (if (f x).isSome then q else q+1) f'->w.grownBy w' (some b)-> wpList P ops Q rest (a.put o.dst undef) w'):wpList P ops Q (o::rest) a w:=by
 obtain ⟨D,h1,h2,h3⟩:=jk;obtain ⟨kl,hkl⟩:=E.ex x hok;have hwf:(Lit.int .i64 v).wf=true:=JN hv1;refine wpList_mapUpdate_own w hg mo xo vo t hop k e E.law ht (plainElem P e) b n D hm h1 aS (E.enc x) (.int .i64 v) kl hx hv hkl (.lit (.int .i64 v)) [] (plainElem_int he hwf) fun w' ho hgr=> ?_;have ail:=E.law.key hkl;have FK:=h1.tidy E.law;classical
 refine h w' (fun y=>if y=x then some v else f y) ⟨aH,fun y _ hy=>by simp [hy]⟩ ⟨D.put kl (.lit (.int .i64 v)),ho,?_,fun y hy ky hky=> ?_⟩ hgr;·rw [Maps.size_put FK,h2,(h3 x hok kl hkl).1]
 by_cases e1:y=x;·subst e1;rw [hkl] at hky;simp only [dW] at hky;subst hky;refine ⟨by rw [Maps.has_put_same FK.isMap ail];simp,fun v' hv'=> ?_⟩;simp at hv';subst hv';exact Maps.atKey_put_same FK.isMap ail _ _
 have hne:ky≠kl:=by intro e2;subst e2;exact e1 (E.inj y x hy hok (E.law.inj hky hkl))
 rw [Maps.has_put_other hne,Maps.atKey_put_other hne];simp only [e1,aqP];exact h3 y hy ky hky
end
theorem mapM_some {α β:Type} {f:α->Option β}:∀(L:List α),(∀i∈L,∃y,f i=some y)->∃ys,L.mapM f=some ys
 |[],_=>⟨[],rfl⟩
 |x::L,h=>by
  obtain ⟨y,hy⟩:=h x aH
  obtain ⟨ys,hys⟩:=mapM_some L (fun i hi=>h i (by simp [hi]))
  exact ⟨y::ys,by simp [List.mapM_cons,hy,hys]⟩
def afL {P:Program} {k e:TypeId} {N:Nat} (A:WideMaps.ArrKey P k e N) (he:P.underlying e=some (.int .i64)) (hsz:∃m,P.types.size=m+1):LH P k (List Int) where
 enc l:= .agg (l.map (Value.int .i64)).toArray
 ok l:=l.length=N/\∀x∈l,i64 x
 law:=Maps.Keyed.of_law A.law
 ex l:=by
  rintro ⟨hl,hw⟩
  obtain ⟨m,hm⟩:=hsz
  have hkt:=A.keyType ⟨m,hm⟩
  have alV:=A.one
  have UN:=A.size
  unfold keyOf
  simp only [A.hu]
  have ain:(Value.agg (l.map (Value.int .i64)).toArray).formed P k=true:=by
   simp [Value.formed,A.hu,UN,hl]
  rw [hkt,ain]
  simp only [Bool.and_self,aqj]
  have hk:∃ls,P.keyLits (P.types.size+1) k (Value.agg (l.map (Value.int .i64)).toArray).cells.toList=some ls:=by
   simp only [Value.cells,Program.keyLits,A.hu]
   rw [bQ (by simp [UN,hl])]
   have:∃ys,(List.range N).mapM (fun i=>P.keyLits P.types.size e (((l.map (Value.int .i64)).drop (i*P.cellsOf e)).take (P.cellsOf e)))=some ys:=by
    refine mapM_some _ fun i hi=> ?_
    have hi':i<l.length:=by rw [hl];simpa using hi
    have h1:((l.map (Value.int .i64)).drop (i*P.cellsOf e)).take (P.cellsOf e)=[.int .i64 l[i]]:=by
     rw [alV,gy]
     apply eY
     intro j
     rcases j with _|j
     ·simp [hi']
     simp [dL]
    rw [h1,hm]
    exact ⟨[.int .i64 l[i]],by simp [Program.keyLits,he,JN (hw l[i] (dQ hi'))]⟩
   obtain ⟨ys,hys⟩:=this
   exact ⟨ys.flatten,by simp [hys]⟩
  obtain ⟨ls,hls⟩:=hk
  exact ⟨_,by rw [hls];rfl⟩
 inj x y _ _ h:=by
  have h1:x.map (Value.int .i64)=y.map (Value.int .i64):=iq h
  exact List.map_inj_right (fun a b hab=>by simpa using hab) |>.1 h1
