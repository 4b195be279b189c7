/- Lemmas, each with its own conditions. -/
import Derived.Test.YtjagagpcjpcjjaaGreatMw4
import Derived.Deep.Matrix
import Derived.Lib.SmallJoins
set_option maxRecDepth 100000
set_option maxHeartbeats 32000000
namespace Go.Proofs.YtjagagpcjpcjjaaGreat
open Tryz
open Go.RowKit Go.Joins Go.ChangeShapes Go.WideShapes Go.Deep
theorem NR (b off j:Nat):(⟨b,off,none⟩:Addr).add j=⟨b,off+j,none⟩:=by
 unfold Addr.add;split;·rename_i h;subst h;rfl
 rfl
theorem Ar {w:World} {a:Addr} {v:Value} (h:w.cell? a=some v):∃b off,a=⟨b,off,none⟩/\b<w.heap.size:=by
 obtain ⟨b,off,s⟩:=a;unfold World.cell? at h;have hb:b<w.heap.size:=by
  by_cases hb:b<w.heap.size;·exact hb
  rw [aqR (iq hb)] at h;simp at h
 cases s with
 |none=>exact ⟨b,off,rfl,hb⟩
 |some s=>simp only [Option.isSome_some,aqj] at h;split at h<;>cases h
theorem wf_i64 {x:Int} (h:(Lit.int .i64 x).wf=true):i64 x:=by
 have:=in64_of_wf h;unfold In64 at this;unfold i64;omega
section
variable {H:Type} {enc:TypeId×Value->H} {w:World} {held:Bool} {fuel:Nat} {cs:List Value} {x:DataW H×List MemPlace}
theorem Wt {a:Option Addr} {L C:Nat} {zs:List Int} (h1:L<=C) (h2:C<=maxLen) (h3:zs.length=C) (h4:∀n∈zs,(Lit.int .i64 n).wf=true) (h5:a=none->C=0) (h6:∀a',a=some a'->∀c,c<C->w.cell? (a'.add c)=some (.int .i64 (zs.getD c 0))):Sl (fun _=>False) w a C (zs.take L):=by
 refine ⟨by rw [dx];omega,h2,fun j y hj=> ?_⟩;have hjl:j<(zs.take L).length:=by
  by_cases e:j<(zs.take L).length;·exact e
  rw [bZ ah] at hj;simp at hj
 have hjL:j<L:=by rw [dx] at hjl;omega
 cases a with
 |none=>have:=h5 rfl;omega
 |some a'=>
  obtain ⟨b,off,rfl,hb⟩:=Ar (h6 a' rfl 0 ah);have hc:=h6 _ rfl j ah;have hy:zs.getD j 0=y:=by rw [dL,bQ hjL] at hj;exact iw hj
  have hyz:y∈zs:=by rw [dL,bQ hjL] at hj;exact bV hj
  refine ⟨b,off,[.int .i64 y],rfl,?_,id,⟨rfl,wf_i64 (h4 y hyz)⟩,fun i u hi=> ?_⟩;·simpa [Addr.add] using hb
  obtain ⟨rfl,rfl⟩:i=0/\u= .int .i64 y:=by
   rcases i with _|i;·simpa using hi.symm
   simp at hi
  rw [NR,hy] at hc;simpa [GR.sz] using hc
theorem Fu (h:DataW.trod enc prog w 0 (fun _=>true) held fuel 22 cs=some x):∃(a:Option Addr) (c:Nat) (l:List (List Int)),cs=[.slice a l.length c]/\Sl (fun _=>False) w a c l:=by
 rcases open_int_rows underlying22 underlying49 underlying3 aB aB h with ⟨rfl,_⟩|⟨a,len,cap,A,L,C,Z,rfl,_,hl,hm,_,hr⟩;·exact ⟨none,0,[],rfl,Sl.nil _ _ _ aS⟩
 refine ⟨some a,cap,(List.range len).map (fun r=>(Z r).take (L r)),aH,iq hl,hm,fun j y hj=> ?_⟩;have hjl:j<len:=by
  by_cases e:j<len;·exact e
  rw [bZ (iq e)] at hj;simp at hj
 obtain ⟨hc0, -⟩:=hr 0 ah;rw [show a.add 0=a from by simp [Addr.add]] at hc0;obtain ⟨b,off,rfl,hb⟩:=Ar hc0;obtain ⟨hc,h1,h2,h3,h4,h5,h6⟩:=hr j ah;have hy:(Z j).take (L j)=y:=by rw [dP,fO hjl] at hj;simpa using hj
 subst hy;have iX:((Z j).take (L j)).length=L j:=by rw [dx];omega
 refine ⟨b,off,[.slice (A j) ((Z j).take (L j)).length (C j)],rfl,hb,id,⟨A j,C j,rfl,Wt h1 h2 h3 h4 h5 fun a' ha'=>(h6 a' ha').2⟩,fun i u hi=> ?_⟩;obtain ⟨rfl,rfl⟩:i=0/\u= .slice (A j) ((Z j).take (L j)).length (C j):=by
  rcases i with _|i;·simpa using hi.symm
  simp at hi
 rw [NR] at hc;rw [iX];simpa [GR.sz] using hc
theorem NS:prog.cellsOf 24=4:=aB
theorem RV {r:Reach} {b0:Nat} {v:Value} {d:DataW H} {p:List MemPlace} (hv:Value.okWide prog w r b0 24 v) (h:DataW.Trod enc prog w 0 (fun _=>true) held 24 v d p):∃m an cn ao co,v=kF m an cn ao co/\Ma (fun _=>False) w an cn ao co m:=by
 obtain ⟨v0,v1,v2,v3,y0,y1,y2,y3,n,rfl, -, -,h0,h1,h2,h3⟩:=open_agg4 underlying24 aB NS hv h;obtain ⟨x0,e0, -,w0⟩:=aqF underlying3 h0;obtain ⟨x1,e1, -,w1⟩:=aqF underlying3 h1;obtain ⟨a2,c2,l2,e2,s2⟩:=Fu h2;obtain ⟨a3,c3,l3,e3,s3⟩:=Fu h3;simp at e0 e1 e2 e3;subst e0 e1 e2 e3;exact ⟨⟨x0,x1,l2,l3⟩,a2,c2,a3,c3,rfl,wf_i64 w0,wf_i64 w1,s2,s3⟩
end
