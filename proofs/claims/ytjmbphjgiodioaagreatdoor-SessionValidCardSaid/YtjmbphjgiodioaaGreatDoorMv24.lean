/- Several texts, one behind the other. Conditions: as each of them says. -/
import Derived.Test.YtjmbphjgiodioaaGreatDoorMv14
import Derived.Laws.Strings
import Derived.Laws.BytesString
import Derived.WideKeyArr2
set_option maxRecDepth 100000
set_option maxHeartbeats 32000000
set_option linter.all false
namespace Go.Ev
theorem iSub_eq (m n:Nat):iSub m n=(m:Int)-n:=by
 have e:iSub m n=Nat.rec (motive:=fun _=>Int) (.ofNat (m-n)) (fun k _=> .negSucc k) (n-m):=rfl
 rw [e]
 by_cases h:n≤m
 ·rw [show n-m=0 by omega];show ((m-n:Nat):Int)=_;omega
 obtain ⟨k,hk⟩:∃k,n-m=k+1:=⟨n-m-1,by omega⟩
 rw [hk];show Int.negSucc k=_;omega
theorem iAdd_eq:∀x y:Int,iAdd x y=x+y
 | .ofNat m,.ofNat n=>rfl
 | .ofNat m,.negSucc n=>by show iSub m (n+1)=_;rw [iSub_eq];show (m:Int)-((n+1:Nat):Int)=(m:Int)+Int.negSucc n;omega
 | .negSucc m,.ofNat n=>by show iSub n (m+1)=_;rw [iSub_eq];show (n:Int)-((m+1:Nat):Int)=Int.negSucc m+(n:Int);omega
 | .negSucc m,.negSucc n=>rfl
theorem iNeg_eq:∀x:Int,iNeg x= -x
 | .ofNat 0=>rfl
 | .ofNat (_+1)=>rfl
 | .negSucc _=>rfl
theorem iMul_eq:∀x y:Int,iMul x y=x*y
 | .ofNat m,.ofNat n=>rfl
 | .ofNat m,.negSucc n=>by
  show iNeg (.ofNat (m*(n+1)))=_;rw [iNeg_eq]
  show -((m*(n+1):Nat):Int)=(m:Int)*Int.negSucc n
  rw [Int.negSucc_eq,Int.mul_neg];simp
 | .negSucc m,.ofNat n=>by
  show iNeg (.ofNat ((m+1)*n))=_;rw [iNeg_eq]
  show -(((m+1)*n:Nat):Int)=Int.negSucc m*(n:Int)
  rw [Int.negSucc_eq,Int.neg_mul];simp
 | .negSucc m,.negSucc n=>rfl
theorem iEq_eq:∀x y:Int,iEq x y=(x==y)
 | .ofNat m,.ofNat n=>by
  show Nat.beq m n=_
  by_cases h:m=n
  ·subst h;simp
  have : Nat.beq m n = false := by
   cases hh:Nat.beq m n with
   |false=>rfl
   |true=>exact absurd (Nat.eq_of_beq_eq_true hh) h
  rw [this];symm;simp;omega
 | .ofNat m,.negSucc n=>by show false=_;symm;simp
 | .negSucc m,.ofNat n=>by show false=_;symm;simp
 | .negSucc m,.negSucc n=>by
  show Nat.beq m n=_
  by_cases h:m=n
  ·subst h;simp
  have : Nat.beq m n = false := by
   cases hh:Nat.beq m n with
   |false=>rfl
   |true=>exact absurd (Nat.eq_of_beq_eq_true hh) h
  rw [this];symm;simp;omega
theorem ble_eq (m n:Nat):Nat.ble m n=decide (m≤n):=by
 by_cases h:m≤n
 ·rw [decide_eq_true h];exact Nat.ble_eq_true_of_le h
 rw [decide_eq_false h]
 cases hh:Nat.ble m n with
 |false=>rfl
 |true=>exact absurd (Nat.le_of_ble_eq_true hh) h
theorem beq_eq (m n:Nat):Nat.beq m n=decide (m=n):=by
 by_cases h:m=n
 ·subst h;simp
 rw [decide_eq_false h]
 cases hh:Nat.beq m n with
 |false=>rfl
 |true=>exact absurd (Nat.eq_of_beq_eq_true hh) h
theorem iLe_eq:∀x y:Int,iLe x y=decide (x≤y)
 | .ofNat m,.ofNat n=>by show Nat.ble m n=_;rw [ble_eq];congr 1;simp
 | .ofNat m,.negSucc n=>by show false=_;symm;apply decide_eq_false;show ¬((m:Int)≤Int.negSucc n);omega
 | .negSucc m,.ofNat n=>by show true=_;symm;apply decide_eq_true;show Int.negSucc m≤(n:Int);omega
 | .negSucc m,.negSucc n=>by show Nat.ble n m=_;rw [ble_eq];congr 1;apply propext;omega
theorem iLt_eq (x y:Int):iLt x y=decide (x<y):=by
 unfold iLt;rw [bNot_eq,iLe_eq]
 by_cases h:y≤x
 ·rw [decide_eq_true h,decide_eq_false (by omega)];rfl
 rw [decide_eq_false h,decide_eq_true (by omega)];rfl
theorem beqK_eq:∀{j k:IntKind},beqK j k=true→j=k:=by intro j k h;cases j<;>cases k<;>first|rfl|exact nomatch h
theorem in_wrap {k:IntKind} {n:Int} (h:iIn k n=true):k.wrap n=n:=by
 cases n with
 |ofNat m=>
  cases k<;>(have h':=Nat.le_of_ble_eq_true h;simp only [IntKind.wrap,IntKind.bits,IntKind.signed];simp;omega)
 |negSucc m=>
  cases k<;>first|(have h':false=true:=h;cases h';done)|(have h':=Nat.le_of_ble_eq_true h;simp only [IntKind.wrap,IntKind.bits,IntKind.signed];simp;omega)
theorem rI_eq (k:IntKind) (n:Int) (h:Hp):rI k n h= .v (.it k n) h:=by unfold rI;rw [fI_eq]
theorem wrI_eq (k:IntKind) (n:Int) (h:Hp):wrI k n h= .v (.it k (k.wrap n)) h:=by
 unfold wrI;rw [bR_eq]
 split
 ·rename_i hh;rw [rI_eq,in_wrap hh]
 rw [rI_eq]
theorem rB_eq (b:Bool) (h:Hp):rB b h= .v (.bo b) h:=by cases b<;>rfl
theorem rN_eq (n:Nat) (h:Hp):rN n h= .v (.it .i64 (.ofNat n)) h:=rfl
theorem in_lt {k:IntKind} {m:Nat} (h:iIn k (.ofNat m)=true):m<2 ^ k.bits∧(k.signed=true→m<2 ^ (k.bits-1)):=by
 cases k<;>(have h':=Nat.le_of_ble_eq_true h;constructor<;>(simp [IntKind.bits,IntKind.signed]<;>omega))
theorem lt_in {k:IntKind} {m:Nat} (h1:m<2 ^ k.bits) (h2:k.signed=true→m<2 ^ (k.bits-1)):iIn k (.ofNat m)=true:=by
 cases k<;>first
  |(have:=h2 rfl;simp [IntKind.bits] at this;exact Nat.ble_eq_true_of_le (by omega))
  |(simp [IntKind.bits] at h1;exact Nat.ble_eq_true_of_le (by omega))
theorem bits_nat {k:IntKind} {m n:Nat} (hm:iIn k (.ofNat m)=true) (hn:iIn k (.ofNat n)=true):
    bits .and k (.ofNat m) (.ofNat n)= .ofNat (Nat.land m n)∧bits .or k (.ofNat m) (.ofNat n)= .ofNat (Nat.lor m n)∧bits .xor k (.ofNat m) (.ofNat n)= .ofNat (Nat.xor m n):=by
 obtain ⟨m1,m2⟩:=in_lt hm
 obtain ⟨n1,n2⟩:=in_lt hn
 have em:(BitVec.ofInt k.bits (.ofNat m)).toNat=m:=by
  have:BitVec.ofInt k.bits (.ofNat m)=BitVec.ofNat k.bits m:=BitVec.ofInt_natCast ..
  rw [this,BitVec.toNat_ofNat,Nat.mod_eq_of_lt m1]
 have en:(BitVec.ofInt k.bits (.ofNat n)).toNat=n:=by
  have:BitVec.ofInt k.bits (.ofNat n)=BitVec.ofNat k.bits n:=BitVec.ofInt_natCast ..
  rw [this,BitVec.toNat_ofNat,Nat.mod_eq_of_lt n1]
 refine ⟨?_,?_,?_⟩
 ·unfold bits
  simp only [BitVec.toNat_and,em,en]
  have:iIn k (.ofNat (m&&&n))=true:=lt_in (Nat.and_lt_two_pow _ n1) (fun hs=>Nat.and_lt_two_pow _ (n2 hs))
  exact in_wrap this
 ·unfold bits
  simp only [BitVec.toNat_or,em,en]
  have:iIn k (.ofNat (m ||| n))=true:=lt_in (Nat.or_lt_two_pow m1 n1) (fun hs=>Nat.or_lt_two_pow (m2 hs) (n2 hs))
  exact in_wrap this
 unfold bits
 simp only [BitVec.toNat_xor,em,en]
 have:iIn k (.ofNat (m ^^^ n))=true:=lt_in (Nat.xor_lt_two_pow m1 n1) (fun hs=>Nat.xor_lt_two_pow (m2 hs) (n2 hs))
 exact in_wrap this
theorem natOp_eq {f:Nat→Nat→Nat} {op:BinOp} {k:IntKind} {x y:Int} {h:Hp} (hb:∀m n,iIn k (.ofNat m)=true→iIn k (.ofNat n)=true→bits op k (.ofNat m) (.ofNat n)= .ofNat (f m n)):natOp f op k x y h= .v (.it k (bits op k x y)) h:=by
 unfold natOp
 rw [bR_eq]
 split
 ·rename_i hh
  rw [bB_eq] at hh
  split at hh
  case isFalse=>cases hh
  rename_i hx
  cases x with
  |negSucc m=>exact rI_eq ..
  |ofNat m=>cases y with
   |negSucc n=>exact rI_eq ..
   |ofNat n=>show rI k (Int.ofNat (f m n)) h=_;rw [rI_eq,hb _ _ hx hh]
 rw [rI_eq]
theorem quo_ok {k:IntKind} {x y:Int} {h:Hp} {r:R} (hr:quoI k x y h=r) (ho:r.ok):y≠0∧r= .v (.it k (k.wrap (x.tdiv y))) h:=by
 unfold quoI at hr
 rw [bR_eq,iEq_eq] at hr
 split at hr
 ·subst hr;exact False.elim ho
 rename_i hy
 refine ⟨fun e=>hy (by subst e;rfl),?_⟩
 subst hr
 cases x<;>cases y<;>first|(exact wrI_eq ..)|rfl
theorem rem_ok {k:IntKind} {x y:Int} {h:Hp} {r:R} (hr:remI k x y h=r) (ho:r.ok):y≠0∧r= .v (.it k (x.tmod y)) h:=by
 unfold remI at hr
 rw [bR_eq,iEq_eq] at hr
 split at hr
 ·subst hr;exact False.elim ho
 rename_i hy
 refine ⟨fun e=>hy (by subst e;rfl),?_⟩
 subst hr
 cases x<;>cases y<;>first|(exact rI_eq ..)|rfl
theorem minN_eq (m n:Nat):minN m n=min m n:=by
 unfold minN;rw [ble_eq]
 by_cases h:m≤n
 ·rw [decide_eq_true h,Nat.min_eq_left h]
 rw [decide_eq_false h,Nat.min_eq_right (by omega)]
theorem onNt_ok {n:Int} {K:Nat→R} {r:R} (h:onNt n K=r) (hr:r.ok):∃m,n= .ofNat m∧K m=r:=by
 cases n<;>first|exact ⟨_,rfl,h⟩|(subst h;exact False.elim hr)
section
variable {G:Program}
theorem bi_ok {op:BinOp} {k j:IntKind} {x y:Int} {h:Hp} {r:R} (t:TypeId) (hr:biA op k j x y h=r) (ho:r.ok):
    ∃a v,r= .v a h∧(∀φ,vr φ a v)∧∀w,(binOp op t (.int k x) (.int j y)).run G w= .ok v w:=by
 have key:∀(op':BinOp),op'≠.shl→op'≠.shr→bR (beqK k j) (biI op' k x y h) (.bad 62)=r→∃a v,r= .v a h∧(∀φ,vr φ a v)∧∀w,(binOp op' t (.int k x) (.int j y)).run G w= .ok v w:=fun op' n1 n2 hr=>by
  have hb:=bR_ok hr ho
  clear hr
  obtain ⟨hk,hr⟩:=hb
  have hkj:=beqK_eq hk
  subst hkj
  cases op' with
  |shl=>exact absurd rfl n1
  |shr=>exact absurd rfl n2
  |add=>exact ⟨.it k (k.wrap (x+y)),.int k (k.wrap (x+y)),by rw [←hr,←iAdd_eq];exact wrI_eq ..,fun _=>rfl,fun w=>by simp [binOp,Op.intArith]⟩
  |sub=>exact ⟨.it k (k.wrap (x-y)),.int k (k.wrap (x-y)),by rw [←hr,Int.sub_eq_add_neg,←iNeg_eq,←iAdd_eq];exact wrI_eq ..,fun _=>rfl,fun w=>by simp [binOp,Op.intArith]⟩
  |mul=>exact ⟨.it k (k.wrap (x*y)),.int k (k.wrap (x*y)),by rw [←hr,←iMul_eq];exact wrI_eq ..,fun _=>rfl,fun w=>by simp [binOp,Op.intArith]⟩
  |quo=>
   obtain ⟨hy,e⟩:=quo_ok hr ho
   exact ⟨.it k (k.wrap (x.tdiv y)),.int k (k.wrap (x.tdiv y)),e,fun _=>rfl,fun w=>by simp [binOp,Op.intDiv,hy]⟩
  |rem=>
   obtain ⟨hy,e⟩:=rem_ok hr ho
   exact ⟨.it k (x.tmod y),.int k (x.tmod y),e,fun _=>rfl,fun w=>by simp [binOp,Op.intDiv,hy]⟩
  |and=>exact ⟨.it k (bits .and k x y),.int k (bits .and k x y),by rw [←hr];exact natOp_eq (f:=Nat.land) fun m n h1 h2=>(bits_nat h1 h2).1,fun _=>rfl,fun w=>by simp [binOp,intBits_and]⟩
  |or=>exact ⟨.it k (bits .or k x y),.int k (bits .or k x y),by rw [←hr];exact natOp_eq (f:=Nat.lor) fun m n h1 h2=>(bits_nat h1 h2).2.1,fun _=>rfl,fun w=>by simp [binOp,intBits_or]⟩
  |xor=>exact ⟨.it k (bits .xor k x y),.int k (bits .xor k x y),by rw [←hr];exact natOp_eq (f:=Nat.xor) fun m n h1 h2=>(bits_nat h1 h2).2.2,fun _=>rfl,fun w=>by simp [binOp,intBits_xor]⟩
  |andNot=>exact ⟨.it k (bits .andNot k x y),.int k (bits .andNot k x y),by rw [←hr];exact rI_eq ..,fun _=>rfl,fun w=>by simp [binOp,intBits_andNot]⟩
  |eql=>exact ⟨.bo (x==y),.bool (x==y),by rw [←hr,←iEq_eq];exact rB_eq ..,fun _=>rfl,fun w=>by simp [binOp,Op.intCmp]⟩
  |neq=>exact ⟨.bo (x !=y),.bool (x !=y),by rw [←hr,bne,←iEq_eq,←bNot_eq];exact rB_eq ..,fun _=>rfl,fun w=>by simp [binOp,Op.intCmp]⟩
  |lss=>exact ⟨.bo (decide (x<y)),.bool (decide (x<y)),by rw [←hr,←iLt_eq];exact rB_eq ..,fun _=>rfl,fun w=>by simp [binOp,Op.intCmp]⟩
  |leq=>exact ⟨.bo (decide (x≤y)),.bool (decide (x≤y)),by rw [←hr,←iLe_eq];exact rB_eq ..,fun _=>rfl,fun w=>by simp [binOp,Op.intCmp]⟩
  |gtr=>exact ⟨.bo (decide (x>y)),.bool (decide (x>y)),by rw [←hr,show decide (x>y)=decide (y<x) from rfl,←iLt_eq];exact rB_eq ..,fun _=>rfl,fun w=>by simp [binOp,Op.intCmp]⟩
  |geq=>exact ⟨.bo (decide (x≥y)),.bool (decide (x≥y)),by rw [←hr,show decide (x≥y)=decide (y≤x) from rfl,←iLe_eq];exact rB_eq ..,fun _=>rfl,fun w=>by simp [binOp,Op.intCmp]⟩
 cases op with
 |shl=>
  have hnn:=onNt_ok hr ho
  clear hr
  obtain ⟨n,rfl,hr⟩:=hnn
  have:¬((Int.ofNat n)<0):=by simp
  refine ⟨.it k (k.wrap (x*2 ^ min n k.bits)),.int k (k.wrap (x*2 ^ min n k.bits)),?_,fun _=>rfl,?_⟩
  ·rw [←hr,wrI_eq,iMul_eq,minN_eq];simp
  intro w
  simp only [binOp,Op.shift,this,if_false]
  simp
 |shr=>
  have hnn:=onNt_ok hr ho
  clear hr
  obtain ⟨n,rfl,hr⟩:=hnn
  have:¬((Int.ofNat n)<0):=by simp
  refine ⟨.it k (x.fdiv (2 ^ (min n k.bits))),.int k (x.fdiv (2 ^ (min n k.bits))),?_,fun _=>rfl,?_⟩
  ·rw [←hr]
   cases x with
   |negSucc m=>exact rI_eq ..
   |ofNat m=>
    refine (rI_eq ..).trans ?_
    rw [minN_eq]
    have e2:((2:Int) ^ (min n k.bits))=((2 ^ (min n k.bits):Nat):Int):=by simp
    rw [e2]
    have:(Int.ofNat m).fdiv ((2 ^ (min n k.bits):Nat):Int)=((m/2 ^ (min n k.bits):Nat):Int):=by
     rw [Int.fdiv_eq_ediv_of_nonneg _ (Int.natCast_nonneg _)];rfl
    rw [this];rfl
  intro w
  simp only [binOp,Op.shift,this,if_false]
  simp
 |add=>exact key _ (by simp) (by simp) hr
 |sub=>exact key _ (by simp) (by simp) hr
 |mul=>exact key _ (by simp) (by simp) hr
 |quo=>exact key _ (by simp) (by simp) hr
 |rem=>exact key _ (by simp) (by simp) hr
 |and=>exact key _ (by simp) (by simp) hr
 |or=>exact key _ (by simp) (by simp) hr
 |xor=>exact key _ (by simp) (by simp) hr
 |andNot=>exact key _ (by simp) (by simp) hr
 |eql=>exact key _ (by simp) (by simp) hr
 |neq=>exact key _ (by simp) (by simp) hr
 |lss=>exact key _ (by simp) (by simp) hr
 |leq=>exact key _ (by simp) (by simp) hr
 |gtr=>exact key _ (by simp) (by simp) hr
 |geq=>exact key _ (by simp) (by simp) hr
end
end Go.Ev
namespace Go.Ev
def Sm (s:List Nat):Prop:=∀x∈s,x<256
theorem data_bytesOf (s:List Nat):(bytesOf s).data.toList=s.map UInt8.ofNat:=by simp [bytesOf]
theorem size_bytesOf (s:List Nat):(bytesOf s).size=s.length:=by simp [bytesOf,ByteArray.size]
theorem toNat_ofNat {x:Nat} (h:x<256):(UInt8.ofNat x).toNat=x:=by simp;omega
theorem ofNat_inj {x y:Nat} (hx:x<256) (hy:y<256) (h:UInt8.ofNat x=UInt8.ofNat y):x=y:=by
 have:=congrArg UInt8.toNat h;rwa [toNat_ofNat hx,toNat_ofNat hy] at this
theorem lenS_eq:∀s:List Nat,lenS s=s.length
 |[]=>rfl
 |_::t=>congrArg Nat.succ (lenS_eq t)
theorem beqS_eq:∀{s r:List Nat},beqS s r=true↔s=r
 |[],[]=>⟨fun _=>rfl,fun _=>rfl⟩
 |[],_::_=>⟨fun h=>(nomatch h),fun h=>(nomatch h)⟩
 |_::_,[]=>⟨fun h=>(nomatch h),fun h=>(nomatch h)⟩
 |x::s,y::r=>by
  have e:beqS (x::s) (y::r)=bB (Nat.beq x y) (beqS s r) false:=rfl
  rw [e,bB_eq,beq_eq]
  by_cases h:x=y
  ·subst h;simp [beqS_eq]
  simp [h]
theorem beqS_map {s r:List Nat} (hs:Sm s) (hr:Sm r):(s.map UInt8.ofNat==r.map UInt8.ofNat)=beqS s r:=by
 have inj:∀{s r:List Nat},Sm s→Sm r→s.map UInt8.ofNat=r.map UInt8.ofNat→s=r:=by
  intro s
  induction s with
  |nil=>intro r _ _ h;cases r with
   |nil=>rfl
   |cons y r=>simp at h
  |cons x s ih=>
   intro r hs hr h
   cases r with
   |nil=>simp at h
   |cons y r=>
    simp only [List.map_cons,List.cons.injEq] at h
    rw [ofNat_inj (hs x (by simp)) (hr y (by simp)) h.1,ih (fun z hz=>hs z (by simp [hz])) (fun z hz=>hr z (by simp [hz])) h.2]
 by_cases h:s=r
 ·subst h;rw [beqS_eq.2 rfl];simp
 have e1 : beqS s r = false := by
  cases hh:beqS s r with
  |false=>rfl
  |true=>exact absurd (beqS_eq.1 hh) h
 rw [e1]
 have:s.map UInt8.ofNat≠r.map UInt8.ofNat:=fun e=>h (inj hs hr e)
 simpa using this
theorem ltS_map:∀{s r:List Nat},Sm s→Sm r→Op.bytesLess (s.map UInt8.ofNat) (r.map UInt8.ofNat)=ltS s r
 |[],[],_,_=>rfl
 |[],_::_,_,_=>rfl
 |_::_,[],_,_=>rfl
 |x::s,y::r,hs,hr=>by
  have e:ltS (x::s) (y::r)=bB (Nat.ble (Nat.succ x) y) true (bB (Nat.beq x y) (ltS s r) false):=rfl
  have hx:=hs x (by simp)
  have hy:=hr y (by simp)
  have ih:=ltS_map (s:=s) (r:=r) (fun z hz=>hs z (by simp [hz])) (fun z hz=>hr z (by simp [hz]))
  rw [e,bB_eq,bB_eq,ble_eq,beq_eq]
  simp only [List.map_cons,Op.bytesLess,ih]
  have e1:decide (UInt8.ofNat x<UInt8.ofNat y)=decide (x+1≤y):=by
   have:(UInt8.ofNat x<UInt8.ofNat y)↔x+1≤y:=by rw [UInt8.lt_iff_toNat_lt,toNat_ofNat hx,toNat_ofNat hy];omega
   simp [this]
  have e2:(UInt8.ofNat x==UInt8.ofNat y)=decide (x=y):=by
   by_cases h:x=y
   ·subst h;simp
   have:UInt8.ofNat x≠UInt8.ofNat y:=fun e=>h (ofNat_inj hx hy e)
   simp [h,this]
  rw [e1,e2]
  by_cases h1:x+1≤y
  ·simp [h1]
  by_cases h2:x=y
  ·simp [h2]
  simp [h1,h2]
theorem appS_eq:∀(x y:List Nat) (K:List Nat→R),appS x y K=K (x++y)
 |[],_,_=>rfl
 |a::x,y,K=>appS_eq x y fun r=>K (a::r)
theorem takeS_ok:∀{x:List Nat} {n:Nat} {K:List Nat→R} {r:R},takeS x n K=r→r.ok→n≤x.length∧K (x.take n)=r
 |[],0,_,_,h,_=>⟨Nat.le_refl _,h⟩
 |[],n+1,_,_,h,hr=>by subst h;exact False.elim hr
 |a::x,0,_,_,h,_=>⟨Nat.zero_le _,h⟩
 |a::x,n+1,K,r,h,hr=>by
  obtain ⟨h1,h2⟩:=takeS_ok (x:=x) (n:=n) (K:=fun r=>K (a::r)) h hr
  exact ⟨by simpa using h1,h2⟩
theorem dropS_eq:∀(x:List Nat) (n:Nat),dropS x n=x.drop n
 |[],n=>by cases n<;>rfl
 |_::_,0=>rfl
 |_::x,n+1=>dropS_eq x n
theorem fS_eq (x:List Nat) (K:List Nat→R):fS x K=K x:=by cases x<;>rfl
theorem nthS_ok:∀{x:List Nat} {i:Nat} {K:Nat→R} {r:R},nthS x i K=r→r.ok→∃c,x[i]? =some c∧K c=r
 |[],_,_,_,h,hr=>by subst h;exact False.elim hr
 |a::x,0,_,_,h,_=>⟨a,rfl,h⟩
 |a::x,i+1,K,r,h,hr=>by
  obtain ⟨c,h1,h2⟩:=nthS_ok (x:=x) (i:=i) (K:=K) h hr
  exact ⟨c,by simpa using h1,h2⟩
theorem bytes_ext {a b:ByteArray} (h:a.data.toList=b.data.toList):a=b:=by
 cases a;cases b;simp only [ByteArray.mk.injEq];exact Array.ext' h
theorem app_bytesOf (x y:List Nat):bytesOf x++bytesOf y=bytesOf (x++y):=by
 apply bytes_ext;rw [data_bytesOf]
 have:(bytesOf x++bytesOf y).data=(bytesOf x).data++(bytesOf y).data:=by simp
 rw [this,Array.toList_append,data_bytesOf,data_bytesOf,List.map_append]
theorem ext_bytesOf (x:List Nat) (l h:Nat):(bytesOf x).extract l h=bytesOf ((x.take h).drop l):=by
 apply bytes_ext;rw [data_bytesOf]
 have:((bytesOf x).extract l h).data=(bytesOf x).data.extract l h:=by simp
 rw [this,Array.toList_extract,data_bytesOf,List.extract_eq_take_drop,List.map_drop,List.map_take,List.drop_take]
theorem at_bytesOf {x:List Nat} {i c:Nat} (h:x[i]? =some c):(bytesOf x)[i]? =some (UInt8.ofNat c):=by
 have hlt:=(List.getElem?_eq_some_iff.1 h).1
 have hv:=(List.getElem?_eq_some_iff.1 h).2
 have hs:i<(bytesOf x).size:=by rw [size_bytesOf];exact hlt
 rw [getElem?_pos (bytesOf x) i hs]
 congr 1
 show (bytesOf x).data[i]=_
 simp [bytesOf,hv]
theorem sm_app {x y:List Nat} (hx:Sm x) (hy:Sm y):Sm (x++y):=fun z hz=>(List.mem_append.1 hz).elim (hx z) (hy z)
section
variable {G:Program}
theorem bt_ok {op:BinOp} {x y:List Nat} {h:Hp} {r:R} (t:TypeId) (hx:Sm x) (hy:Sm y) (hr:btA op x y h=r) (ho:r.ok):
    ∃a v,r= .v a h∧(∀φ,vr φ a v)∧∀w,(binOp op t (.string (bytesOf x)) (.string (bytesOf y))).run G w= .ok v w:=by
 have eq:((bytesOf x).toList==(bytesOf y).toList)=beqS x y:=by rw [ByteArray.toList_eq,ByteArray.toList_eq,data_bytesOf,data_bytesOf,beqS_map hx hy]
 have lt:Op.bytesLess (bytesOf x).toList (bytesOf y).toList=ltS x y:=by rw [ByteArray.toList_eq,ByteArray.toList_eq,data_bytesOf,data_bytesOf,ltS_map hx hy]
 cases op with
 |add=>
  obtain ⟨hle,hr⟩:=bR_ok (show bR (Nat.ble (Nat.add (lenS x) (lenS y)) 9223372036854775807) (appS x y fun s=> .v (.st s) h) (.bad 65)=r from hr) ho
  rw [appS_eq] at hr
  have hle':=Nat.le_of_ble_eq_true hle
  rw [lenS_eq,lenS_eq] at hle'
  refine ⟨.st (x++y),.string (bytesOf (x++y)),hr.symm,fun _=>⟨sm_app hx hy,rfl⟩,?_⟩
  intro w
  have hn:¬((((bytesOf x).size+(bytesOf y).size:Nat):Int)>IntKind.i64.max):=by
   rw [size_bytesOf,size_bytesOf]
   have:IntKind.i64.max=9223372036854775807:=by decide
   rw [this]
   have h2:x.length+y.length≤9223372036854775807:=hle'
   omega
  simp only [binOp,Op.stringOp,hn,if_false,app_bytesOf]
  simp
 |eql=>exact ⟨.bo (beqS x y),.bool (beqS x y),by rw [←hr];exact rB_eq ..,fun _=>rfl,fun w=>by simp only [binOp,Op.stringOp,eq];simp⟩
 |neq=>exact ⟨.bo (!beqS x y),.bool (!beqS x y),by rw [←hr,←bNot_eq];exact rB_eq ..,fun _=>rfl,fun w=>by simp only [binOp,Op.stringOp,eq];simp⟩
 |lss=>exact ⟨.bo (ltS x y),.bool (ltS x y),by rw [←hr];exact rB_eq ..,fun _=>rfl,fun w=>by simp only [binOp,Op.stringOp,lt];simp⟩
 |leq=>exact ⟨.bo (ltS x y||beqS x y),.bool (ltS x y||beqS x y),by rw [←hr];refine (rB_eq ..).trans ?_;rw [bB_eq];cases ltS x y<;>rfl,fun _=>rfl,fun w=>by simp only [binOp,Op.stringOp,lt,eq];simp⟩
 |gtr=>exact ⟨.bo (!(ltS x y||beqS x y)),.bool (!(ltS x y||beqS x y)),by rw [←hr];refine (rB_eq ..).trans ?_;rw [bB_eq,bNot_eq];cases ltS x y<;>rfl,fun _=>rfl,fun w=>by simp only [binOp,Op.stringOp,lt,eq];simp⟩
 |geq=>exact ⟨.bo (!ltS x y),.bool (!ltS x y),by rw [←hr,←bNot_eq];exact rB_eq ..,fun _=>rfl,fun w=>by simp only [binOp,Op.stringOp,lt];simp⟩
 |sub=>subst hr;exact False.elim ho
 |mul=>subst hr;exact False.elim ho
 |quo=>subst hr;exact False.elim ho
 |rem=>subst hr;exact False.elim ho
 |and=>subst hr;exact False.elim ho
 |or=>subst hr;exact False.elim ho
 |xor=>subst hr;exact False.elim ho
 |shl=>subst hr;exact False.elim ho
 |shr=>subst hr;exact False.elim ho
 |andNot=>subst hr;exact False.elim ho
end
end Go.Ev
namespace Go.Ev
open Classical
def Good (G:Program) (φ:Phi) (e:TE) (nx:P) (w:World) (run:Result Next):R→Prop
 | .bad _=>True
 | .v a (.mk e' nx')=>∃φ' v w',Stp φ e nx w φ' e' nx' w'∧vr φ' a v∧(run= .ok (.value v) w'∨(v=undef∧run= .ok .skip w'))
 | .call f x h'=>h'= .mk e nx∧∃args:Array Value,lr φ x args.toList∧run=(callFunc f args).run G w
 | .yl p x h'=>h'= .mk e nx∧∃l,∃args:Array Value,φ p=some l∧lr φ x args.toList∧run=(Instr.yield l.B args).run G w
abbrev OD (φ:Phi) (t:TV) (ρ:Operand→Value) (y:Operand):Prop:=vr φ (evO (cOd y) t) (ρ y)
section
variable {G:Program} {φ:Phi} {e:TE} {nx:P} {w:World} {t:TV} {ρ:Operand→Value} {o:Oper}
theorem ofS_ok {v:Value} {a:AV} (h:ofS v=some a) (φ:Phi):vr φ a v∧v.oneCell'=true:=by
 unfold ofS at h
 split at h<;>first|(cases h;exact ⟨rfl,rfl⟩)|(cases h;done)|skip
 rename_i s
 cases h
 refine ⟨⟨?_,?_⟩,rfl⟩
 ·intro x hx
  obtain ⟨b,_,rfl⟩:=List.mem_map.1 hx
  exact b.toNat_lt
 congr 1
 apply bytes_ext
 rw [data_bytesOf,List.map_map]
 have:(UInt8.ofNat∘fun x:UInt8=>x.toNat)=id:=by funext b;simp
 rw [this,List.map_id]
theorem ofSs_ok:∀{l:List Value} {a:AV},ofSs l=some a→∀φ,lr φ a l∧One l
 |[],a,h,φ=>by cases h;exact ⟨rfl,one_nil⟩
 |v::l,a,h,φ=>by
  unfold ofSs at h
  split at h
  ·rename_i x y h1 h2
   cases h
   have e1:=ofS_ok h1 φ
   have e2:=ofSs_ok h2 φ
   exact ⟨⟨v,l,rfl,e1.1,e2.1⟩,one_app (l:=[v]) (one_one e1.2) e2.2⟩
  cases h
theorem ofV_ok {v:Value} {a:AV} (h:ofV v=some a) (φ:Phi):vr φ a v:=by
 unfold ofV at h
 split at h
 ·rename_i l
  obtain ⟨x,h1,rfl⟩:=Option.map_eq_some_iff.1 h
  have:=ofSs_ok h1 φ
  exact ⟨l,rfl,this.1,this.2⟩
 ·rename_i l
  obtain ⟨x,h1,rfl⟩:=Option.map_eq_some_iff.1 h
  have:=ofSs_ok h1 φ
  exact ⟨l,rfl,this.1⟩
 ·rename_i f a b
  split at h
  ·rename_i hh
   cases h
   have e1:a= #[]:=Array.eq_empty_of_size_eq_zero hh.1
   have e2:b= #[]:=Array.eq_empty_of_size_eq_zero hh.2
   subst e1 e2
   exact ⟨#[],#[],rfl,rfl,rfl⟩
  cases h
 exact (ofS_ok h φ).1
theorem evL_ok:∀{ys:List Operand} {K:AV→R} {r:R},(∀y∈ys,OD φ t ρ y)→evL (cOl ys) t K=r→∃l,lr φ l (ys.map ρ)∧K l=r
 |[],_,_,_,hr=>⟨.ln,rfl,hr⟩
 |y::ys,K,r,h,hr=>by
  have hr':(fV (evO (cOd y) t) fun v=>evL (cOl ys) t fun l=>K (.lc v l))=r:=hr
  rw [fV_eq] at hr'
  obtain ⟨l,h1,h2⟩:=evL_ok (K:=fun l=>K (.lc (evO (cOd y) t) l)) (fun z hz=>h z (by simp [hz])) hr'
  exact ⟨.lc (evO (cOd y) t) l,⟨ρ y,_,rfl,h y (by simp),h1⟩,h2⟩
theorem evN_ok {lo:Option Operand} {d:Nat} {K:Nat→R} {r:R} (h:∀y,lo=some y→OD φ t ρ y) (hr:evN (cMo lo) t d K=r) (ho:r.ok):
    (lo=none∧K d=r)∨∃y k,∃m:Nat,lo=some y∧ρ y= .int k (.ofNat m)∧K m=r:=by
 cases lo with
 |none=>exact .inl ⟨rfl,hr⟩
 |some y=>
  have hr':(onI (evO (cOd y) t) fun _ n=>onNt n K)=r:=hr
  obtain ⟨k,n,h1,hr'⟩:=onI_ok hr' ho
  obtain ⟨m,rfl,hr'⟩:=onNt_ok hr' ho
  have:=h y rfl
  rw [OD,h1] at this
  exact .inr ⟨y,k,m,rfl,this,hr'⟩
def Pu (G:Program) (φ:Phi) (o:Oper) (ρ:Operand→Value) (h:Hp) (r:R):Prop:=∃a v,r= .v a h∧vr φ a v∧∀w,(execOp ρ o).run G w= .ok (.value v) w
variable {h:Hp}
theorem p_mv {x:Operand} (hx:OD φ t ρ x) (ho:o.op= .move x∨o.op= .assign x):Pu G φ o ρ h (evX (.mv (cOd x)) t h):=
 ⟨evO (cOd x) t,ρ x,(show (fV (evO (cOd x) t) fun v=>R.v v h)=_ from fV_eq),hx,fun w=>by rcases ho with ho|ho<;>simp [execOp,ho]⟩
theorem p_pk {c a b:Operand} (hc:OD φ t ρ c) (ha:OD φ t ρ a) (hb:OD φ t ρ b) (ho:o.op= .pick c a b) (hok:(evX (.pk (cOd c) (cOd a) (cOd b)) t h).ok):Pu G φ o ρ h (evX (.pk (cOd c) (cOd a) (cOd b)) t h):=by
 obtain ⟨q,h1,h2⟩:=onB_ok (show onB (evO (cOd c) t) _=evX (.pk (cOd c) (cOd a) (cOd b)) t h from rfl) hok
 rw [OD,h1] at hc
 have hc':ρ c= .bool q:=hc
 rw [bR_eq,fV_eq,fV_eq] at h2
 cases q with
 |true=>exact ⟨_,_,h2.symm,ha,fun w=>by simp [execOp,ho,hc',asBool]⟩
 |false=>exact ⟨_,_,h2.symm,hb,fun w=>by simp [execOp,ho,hc',asBool]⟩
theorem p_bi {op:BinOp} {x y:Operand} {xt yt:TypeId} (hx:OD φ t ρ x) (hy:OD φ t ρ y) (ho:o.op= .binOp op xt x y yt) (hok:(evX (.bi op (cOd x) (cOd y)) t h).ok):Pu G φ o ρ h (evX (.bi op (cOd x) (cOd y)) t h):=by
 obtain ⟨k,m,h1,h2⟩:=onI_ok (show onI (evO (cOd x) t) _=evX (.bi op (cOd x) (cOd y)) t h from rfl) hok
 obtain ⟨j,n,h3,h4⟩:=onI_ok h2 hok
 rw [OD,h1] at hx
 rw [OD,h3] at hy
 obtain ⟨a,v,e1,e2,e3⟩:=bi_ok (G:=G) xt h4 hok
 have hx':ρ x= .int k m:=hx
 have hy':ρ y= .int j n:=hy
 refine ⟨a,v,e1,e2 φ,fun w=> ?_⟩
 have hg:(eqGuard op xt x y (.int k m) (.int j n)).run G w= .ok () w:=by unfold eqGuard;cases op<;>simp
 simp only [execOp,ho,hx',hy',Sem.run_bind,hg,e3,Result.andThen_ok,Sem.run_pure]
theorem p_bt {op:BinOp} {x y:Operand} {xt yt:TypeId} (hx:OD φ t ρ x) (hy:OD φ t ρ y) (ho:o.op= .binOp op xt x y yt) (hok:(evX (.bt op (cOd x) (cOd y)) t h).ok):Pu G φ o ρ h (evX (.bt op (cOd x) (cOd y)) t h):=by
 obtain ⟨m,h1,h2⟩:=onS_ok (show onS (evO (cOd x) t) _=evX (.bt op (cOd x) (cOd y)) t h from rfl) hok
 obtain ⟨n,h3,h4⟩:=onS_ok h2 hok
 rw [OD,h1] at hx
 rw [OD,h3] at hy
 obtain ⟨hs1,hx'⟩:=hx
 obtain ⟨hs2,hy'⟩:=hy
 obtain ⟨a,v,e1,e2,e3⟩:=bt_ok (G:=G) xt hs1 hs2 h4 hok
 refine ⟨a,v,e1,e2 φ,fun w=> ?_⟩
 have hg:(eqGuard op xt x y (.string (bytesOf m)) (.string (bytesOf n))).run G w= .ok () w:=by unfold eqGuard;cases op<;>simp
 simp only [execOp,ho,hx',hy',Sem.run_bind,hg,e3,Result.andThen_ok,Sem.run_pure]
theorem p_nc {x:Operand} (hx:OD φ t ρ x) (ho:o.op= .nilCheck x) (hok:(evX (.nc (cOd x)) t h).ok):Pu G φ o ρ h (evX (.nc (cOd x)) t h):=by
 have e0:(bR (isNilA (evO (cOd x) t)) (.bad 73) (fV (evO (cOd x) t) fun v=>R.v v h))=evX (.nc (cOd x)) t h:=rfl
 rw [bR_eq,fV_eq] at e0
 split at e0
 ·rw [←e0] at hok;exact False.elim hok
 rename_i hn
 refine ⟨_,_,e0.symm,hx,fun w=> ?_⟩
 have hx':vr φ (evO (cOd x) t) (ρ x):=hx
 generalize evO (cOd x) t=a at hx' hn
 cases a with
 |ln=>exact False.elim hx'
 |lc _ _=>exact False.elim hx'
 |pn=>exact absurd rfl hn
 |sn=>exact absurd rfl hn
 |mn=>exact absurd rfl hn
 |fz=>exact absurd rfl hn
 |fcn=>exact absurd rfl hn
 |bo b=>have e:ρ x=_:=hx';simp [execOp,ho,e]
 |it k n=>have e:ρ x=_:=hx';simp [execOp,ho,e]
 |gp g n=>have e:ρ x=_:=hx';simp [execOp,ho,e]
 |st s=>obtain ⟨_,e⟩:=hx';simp [execOp,ho,e]
 |pt b n=>obtain ⟨l,_,e⟩:=hx';simp [execOp,ho,e]
 |sl b n m c=>obtain ⟨l,_,e⟩:=hx';simp [execOp,ho,e]
 |su b n m c=>obtain ⟨l,c,_,_,_,_,e⟩:=hx';simp [execOp,ho,e]
 |se=>obtain ⟨l,c,e⟩:=hx';simp [execOp,ho,e]
 |mp r=>obtain ⟨l,_,e⟩:=hx';simp [execOp,ho,e]
 |yl r=>obtain ⟨l,_,e⟩:=hx';simp [execOp,ho,e]
 |fn f a b=>obtain ⟨l,c,e,_⟩:=hx';simp [execOp,ho,e]
 |fc u a=>obtain ⟨l,e,_⟩:=hx';simp [execOp,ho,e]
 |ag l=>obtain ⟨l,e,_⟩:=hx';simp [execOp,ho,e]
 |tu l=>obtain ⟨l,e,_⟩:=hx';simp [execOp,ho,e]
theorem p_un {op:UnOp} {x:Operand} {ty:TypeId} (hx:OD φ t ρ x) (ho:o.op= .unOp op ty x) (hok:(evX (.un op (cOd x)) t h).ok):Pu G φ o ρ h (evX (.un op (cOd x)) t h):=by
 cases op with
 |neg=>
  obtain ⟨k,n,h1,h2⟩:=onI_ok (show (onI (evO (cOd x) t) fun k n=>wrI k (iNeg n) h)=evX (.un .neg (cOd x)) t h from rfl) hok
  rw [OD,h1] at hx
  have hx':ρ x= .int k n:=hx
  rw [wrI_eq,iNeg_eq] at h2
  exact ⟨_,.int k (k.wrap (-n)),h2.symm,rfl,fun w=>by simp [execOp,ho,hx',Op.unary,Op.intArith]⟩
 |xor=>
  obtain ⟨k,n,h1,h2⟩:=onI_ok (show (onI (evO (cOd x) t) fun k n=>rI k (bits .xor k (if k.signed then -1 else k.max) n) h)=evX (.un .xor (cOd x)) t h from rfl) hok
  rw [OD,h1] at hx
  have hx':ρ x= .int k n:=hx
  rw [rI_eq] at h2
  exact ⟨_,.int k (bits .xor k (if k.signed then -1 else k.max) n),h2.symm,rfl,fun w=>by simp [execOp,ho,hx',Op.unary,intBits_xor]⟩
 |not=>
  obtain ⟨b,h1,h2⟩:=onB_ok (show (onB (evO (cOd x) t) fun b=>rB (bNot b) h)=evX (.un .not (cOd x)) t h from rfl) hok
  rw [OD,h1] at hx
  have hx':ρ x= .bool b:=hx
  rw [rB_eq,bNot_eq] at h2
  exact ⟨_,.bool (!b),h2.symm,rfl,fun w=>by simp [execOp,ho,hx',Op.unary]⟩
 |_=>exact False.elim hok
theorem p_ci {k:IntKind} {i:IntKind} {s d:TypeId} {x:Operand} (hx:OD φ t ρ x) (h1:G.underlying s=some (.int i)) (h2:G.underlying d=some (.int k)) (ho:o.op= .convert s d x) (hok:(evX (.ci k (cOd x)) t h).ok):Pu G φ o ρ h (evX (.ci k (cOd x)) t h):=by
 obtain ⟨j,n,e1,e2⟩:=onI_ok (show (onI (evO (cOd x) t) fun _ n=>wrI k n h)=evX (.ci k (cOd x)) t h from rfl) hok
 rw [OD,e1] at hx
 have hx':ρ x= .int j n:=hx
 rw [wrI_eq] at e2
 exact ⟨_,.int k (k.wrap n),e2.symm,rfl,fun w=>by simp [execOp,ho,hx',convert,run_underlying h1,run_underlying h2,Conv.intToInt]⟩
theorem p_sv {s d:TypeId} {x:Operand} (hx:OD φ t ρ x) (h1:G.underlying s=some .string) (h2:G.underlying d=some .string) (ho:o.op= .convert s d x) (hok:(evX (.sv (cOd x)) t h).ok):Pu G φ o ρ h (evX (.sv (cOd x)) t h):=by
 obtain ⟨m,e1,e2⟩:=onS_ok (show (onS (evO (cOd x) t) fun s=> .v (.st s) h)=evX (.sv (cOd x)) t h from rfl) hok
 rw [OD,e1] at hx
 obtain ⟨hs,hx'⟩:=hx
 exact ⟨_,_,e2.symm,⟨hs,rfl⟩,fun w=>by simp [execOp,ho,hx',convert,run_underlying h1,run_underlying h2]⟩
theorem p_mi {ty:TypeId} {d:TypeDesc} {x:Operand} (hx:OD φ t ρ x) (h1:G.underlying ty=some d) (hd:∀m,d≠.interface m) (ho:o.op= .makeInterface ty x):Pu G φ o ρ h (evX (.mi ty (cOd x)) t h):=by
 refine ⟨.fc ty (evO (cOd x) t),.iface ty (ρ x),(show (fV (evO (cOd x) t) fun v=>R.v (.fc ty v) h)=_ from fV_eq),⟨_,rfl,hx⟩,fun w=> ?_⟩
 cases d with
 |interface m=>exact absurd rfl (hd m)
 |_=>simp [execOp,ho,Instr.makeInterface,run_underlying h1]
theorem p_mf {f:FuncId} {xs ys:Array Operand} (hx:∀y∈xs.toList,OD φ t ρ y) (hy:∀y∈ys.toList,OD φ t ρ y) (ho:o.op= .makeFunc (.func f) xs ys):Pu G φ o ρ h (evX (.mf f (cOl xs.toList) (cOl ys.toList)) t h):=by
 obtain ⟨a,e1,e2⟩:=evL_ok hx (show (evL (cOl xs.toList) t fun x=>evL (cOl ys.toList) t fun y=> .v (.fn f x y) h)=evX (.mf f (cOl xs.toList) (cOl ys.toList)) t h from rfl)
 obtain ⟨b,e3,e4⟩:=evL_ok hy e2
 exact ⟨_,.func (.func f) (xs.map ρ) (ys.map ρ),e4.symm,⟨_,_,rfl,by simpa using e1,by simpa using e3⟩,fun w=>by simp [execOp,ho,Instr.makeFunc]⟩
theorem add_mid (b o j:Nat):(⟨b,o,none⟩:Addr).add j=⟨b,o+j,none⟩:=Addr.add_mid b o j
theorem p_fa {ty:TypeId} {x:Operand} {i:Nat} {fs:Array Field} {f:Field} (hx:OD φ t ρ x) (h1:G.underlying ty=some (.struct fs)) (h2:fs[i]? =some f) (h3:G.cellsOf f.type≠0) (ho:o.op= .fieldAddr ty x i) (hok:(evX (.fa f.offset (cOd x)) t h).ok):
    Pu G φ o ρ h (evX (.fa f.offset (cOd x)) t h):=by
 obtain ⟨b,p,e1,e2⟩:=onP_ok (show (onP (evO (cOd x) t) fun b p=>fN (Nat.add p f.offset) fun p=> .v (.pt b p) h)=evX (.fa f.offset (cOd x)) t h from rfl) hok
 rw [OD,e1] at hx
 obtain ⟨l,hl,hx'⟩:=hx
 rw [fN_eq] at e2
 obtain ⟨j,hj,hj2⟩:∃j,G.info? f.type=some j∧j.size≠0:=by
  unfold Program.cellsOf at h3
  cases hq:G.info? f.type with
  |none=>rw [hq] at h3;exact absurd rfl h3
  |some j=>rw [hq] at h3;exact ⟨j,rfl,h3⟩
 refine ⟨_,.pointer (some ⟨l.B,l.d+(p+f.offset),none⟩),e2.symm,⟨l,hl,rfl⟩,fun w=> ?_⟩
 simp [execOp,ho,hx',Instr.fieldAt,run_underlying h1,h2,Instr.sureAddr,fieldPlace,sizeOf,typeInfo,hj,hj2,add_mid,Nat.add_assoc]
theorem run_sizeOf' {ty:TypeId} (h:inT G ty=true):(sizeOf ty).run G w= .ok (G.cellsOf ty) w:=by
 unfold inT at h
 obtain ⟨i,hi⟩:=Option.isSome_iff_exists.1 h
 simp [sizeOf,typeInfo,hi,Program.cellsOf]
theorem p_ia {ty e:TypeId} {x i:Operand} (hx:OD φ t ρ x) (hi:OD φ t ρ i) (h1:G.underlying ty=some (.slice e)) (h2:inT G e=true) (ho:o.op= .indexAddr ty x i) (hok:(evX (.ia (G.cellsOf e) (cOd x) (cOd i)) t h).ok):
    Pu G φ o ρ h (evX (.ia (G.cellsOf e) (cOd x) (cOd i)) t h):=by
 obtain ⟨k,n,e1,e2⟩:=onI_ok (show (onI (evO (cOd i) t) _)=evX (.ia (G.cellsOf e) (cOd x) (cOd i)) t h from rfl) hok
 obtain ⟨j,rfl,e3⟩:=onNt_ok e2 hok
 rw [OD,e1] at hi
 have hi':ρ i= .int k (j:Int):=hi
 rcases onSl_ok e3 hok with ⟨b,q,m,c,e4,e5⟩|⟨b,q,m,c,e4,e5⟩|⟨_,e5⟩
 ·obtain ⟨e6,e7⟩:=bR_ok e5 hok
  have hlt:j<m:=Nat.le_of_ble_eq_true e6
  rw [OD,e4] at hx
  obtain ⟨l,hl,hx'⟩:=hx
  rw [fN_eq] at e7
  refine ⟨_,.pointer (some ⟨l.B,l.d+(q+j*G.cellsOf e),none⟩),e7.symm,⟨l,hl,rfl⟩,fun w=> ?_⟩
  have:(0:Int)≤j∧(j:Int)<m:=⟨by omega,by omega⟩
  simp [execOp,ho,hx',hi',Instr.indexAt,run_underlying h1,asIntOf,this,run_sizeOf' h2,add_mid,Nat.add_assoc]
  intro hc;omega
 ·obtain ⟨e6,e7⟩:=bR_ok e5 hok
  have hlt:j<m:=Nat.le_of_ble_eq_true e6
  rw [OD,e4] at hx
  obtain ⟨l,c,hl,_,_,_,hx'⟩:=hx
  rw [fN_eq] at e7
  refine ⟨_,.pointer (some ⟨l.B,l.d+(q+j*G.cellsOf e),none⟩),e7.symm,⟨l,hl,rfl⟩,fun w=> ?_⟩
  have:(0:Int)≤j∧(j:Int)<m:=⟨by omega,by omega⟩
  simp [execOp,ho,hx',hi',Instr.indexAt,run_underlying h1,asIntOf,this,run_sizeOf' h2,add_mid,Nat.add_assoc]
  intro hc;omega
 rw [←e5] at hok;exact False.elim hok
theorem p_iy {ty e:TypeId} {m:Nat} {x i:Operand} (hx:OD φ t ρ x) (hi:OD φ t ρ i) (h1:G.underlying ty=some (.array m e)) (h2:inT G e=true) (ho:o.op= .indexAddr ty x i) (hok:(evX (.iy m (G.cellsOf e) (cOd x) (cOd i)) t h).ok):
    Pu G φ o ρ h (evX (.iy m (G.cellsOf e) (cOd x) (cOd i)) t h):=by
 obtain ⟨k,n,e1,e2⟩:=onI_ok (show (onI (evO (cOd i) t) _)=evX (.iy m (G.cellsOf e) (cOd x) (cOd i)) t h from rfl) hok
 obtain ⟨j,rfl,e3⟩:=onNt_ok e2 hok
 obtain ⟨b,q,e4,e5⟩:=onP_ok e3 hok
 obtain ⟨e6,e7⟩:=bR_ok e5 hok
 have hlt:j<m:=Nat.le_of_ble_eq_true e6
 rw [OD,e1] at hi
 have hi':ρ i= .int k (j:Int):=hi
 rw [OD,e4] at hx
 obtain ⟨l,hl,hx'⟩:=hx
 rw [fN_eq] at e7
 refine ⟨_,.pointer (some ⟨l.B,l.d+(q+j*G.cellsOf e),none⟩),e7.symm,⟨l,hl,rfl⟩,fun w=> ?_⟩
 have:(0:Int)≤j∧(j:Int)<m:=⟨by omega,by omega⟩
 simp [execOp,ho,hx',hi',Instr.indexAt,run_underlying h1,asIntOf,Instr.sureAddr,this,run_sizeOf' h2,add_mid,Nat.add_assoc]
 intro hc;omega
theorem p_ih {ty:TypeId} {x i:Operand} (hx:OD φ t ρ x) (hi:OD φ t ρ i) (h1:G.underlying ty=some .string) (ho:o.op= .index ty x i) (hok:(evX (.ih (cOd x) (cOd i)) t h).ok):Pu G φ o ρ h (evX (.ih (cOd x) (cOd i)) t h):=by
 obtain ⟨k,n,e1,e2⟩:=onI_ok (show (onI (evO (cOd i) t) _)=evX (.ih (cOd x) (cOd i)) t h from rfl) hok
 obtain ⟨j,rfl,e3⟩:=onNt_ok e2 hok
 obtain ⟨s,e4,e5⟩:=onS_ok e3 hok
 obtain ⟨c,e6,e7⟩:=nthS_ok e5 hok
 rw [OD,e1] at hi
 have hi':ρ i= .int k (j:Int):=hi
 rw [OD,e4] at hx
 obtain ⟨hs,hx'⟩:=hx
 have hc:c<256:=hs c (List.mem_of_getElem? e6)
 refine ⟨_,.int .u8 (c:Int),e7.symm,rfl,fun w=> ?_⟩
 have e8:=at_bytesOf e6
 simp [execOp,ho,hx',hi',Instr.index,run_underlying h1,asIntOf,e8]
 omega
theorem p_et {x:Operand} {i:Nat} (hx:OD φ t ρ x) (ho:o.op= .extract x i) (hok:(evX (.et (cOd x) i) t h).ok):Pu G φ o ρ h (evX (.et (cOd x) i) t h):=by
 obtain ⟨l,e1,e2⟩:=onT_ok (show (onT (evO (cOd x) t) fun l=>nthA l i fun v=>fV v fun v=>R.v v h)=evX (.et (cOd x) i) t h from rfl) hok
 rw [OD,e1] at hx
 obtain ⟨u,hx',hu⟩:=hx
 obtain ⟨a,v,e3,e4,e5⟩:=lr_nth hu e2 hok
 rw [fV_eq] at e5
 have e3':u[i]? =some v:=by simpa using e3
 exact ⟨a,v,e5.symm,e4,fun w=>by simp [execOp,ho,hx',Instr.extract,e3']⟩
theorem p_ls {x:Operand} {ty:TypeId} {c:Call} (hx:OD φ t ρ x) (h1:G.underlying ty=some .string) (hc:c.callee= .builtin .len) (ha:c.args= #[x]) (ht:c.argTypes= #[ty]) (ho:o.op= .call c) (hok:(evX (.ls (cOd x)) t h).ok):Pu G φ o ρ h (evX (.ls (cOd x)) t h):=by
 obtain ⟨s,e1,e2⟩:=onS_ok (show (onS (evO (cOd x) t) fun s=>rN (lenS s) h)=evX (.ls (cOd x)) t h from rfl) hok
 rw [OD,e1] at hx
 obtain ⟨hs,hx'⟩:=hx
 rw [rN_eq,lenS_eq] at e2
 exact ⟨_,.int .i64 (s.length:Int),e2.symm,rfl,fun w=>by simp [execOp,ho,resolve,hc,ha,ht,hx',invoke,builtin,Builtin.len_,run_underlying h1,goInt,size_bytesOf]⟩
end
end Go.Ev
namespace Go.Ev
open Classical
section
variable {φ:Phi}
theorem app_tot:∀{x y:AV} {l m:List Value},lr φ x l→lr φ y m→∃z,lr φ z (l++m)∧∀K,appA x y K=K z:=by
 intro x
 induction x with
 |ln=>intro y l m hl hm;rw [lr_ln hl];exact ⟨y,hm,fun _=>rfl⟩
 |lc a t _ ih=>
  intro y l m hl hm
  obtain ⟨v,p,rfl,h1,h2⟩:=lr_lc hl
  obtain ⟨z,e1,e2⟩:=ih h2 hm
  exact ⟨.lc a z,⟨v,p++m,rfl,h1,e1⟩,fun K=>e2 fun r=>K (.lc a r)⟩
 |_=>intro y l m h;exact False.elim h
theorem take_all:∀{x:AV} {l:List Value},lr φ x l→∀K,takeA x l.length K=K x:=by
 intro x
 induction x with
 |ln=>intro l hl K;rw [lr_ln hl];rfl
 |lc a t _ ih=>
  intro l hl K
  obtain ⟨v,p,rfl,h1,h2⟩:=lr_lc hl
  exact ih h2 fun r=>K (.lc a r)
 |_=>intro l h;exact False.elim h
theorem over_tot:∀{x y:AV} {l m:List Value},lr φ x m→lr φ y l→(∃z,m.length≤l.length∧lr φ z (m++l.drop m.length)∧∀K,overA x y K=K z)∨∀K,¬(overA x y K).ok:=by
 intro x
 induction x with
 |ln=>intro y l m hm hl;rw [lr_ln hm];exact .inl ⟨y,Nat.zero_le _,by simpa using hl,fun _=>rfl⟩
 |lc a t _ ih=>
  intro y l m hm hl
  obtain ⟨v,p,rfl,h1,h2⟩:=lr_lc hm
  cases y with
  |lc b u=>
   obtain ⟨w,q,rfl,h3,h4⟩:=lr_lc hl
   rcases ih h2 h4 with ⟨z,e1,e2,e3⟩|h
   ·exact .inl ⟨.lc a z,by simpa using e1,⟨v,p++q.drop p.length,by simp,h1,e2⟩,fun K=>e3 fun r=>K (.lc a r)⟩
   exact .inr fun K=>h fun r=>K (.lc a r)
  |_=>exact .inr fun K h=>h
 |_=>intro y l m h;exact False.elim h
theorem put_tot:∀{x y:AV} {l m:List Value} {o:Nat},lr φ x l→lr φ y m→(∃z,o+m.length≤l.length∧lr φ z (l.take o++(m++l.drop (o+m.length)))∧∀K,putA x o y K=K z)∨∀K,¬(putA x o y K).ok:=by
 intro x
 induction x with
 |ln=>
  intro y l m o hl hm
  cases o with
  |zero=>
   rcases over_tot hm hl with ⟨z,e1,e2,e3⟩|h
   ·exact .inl ⟨z,by simpa using e1,by simpa using e2,e3⟩
   exact .inr h
  |succ o=>exact .inr fun K h=>h
 |lc a t _ ih=>
  intro y l m o hl hm
  cases o with
  |zero=>
   rcases over_tot hm hl with ⟨z,e1,e2,e3⟩|h
   ·exact .inl ⟨z,by simpa using e1,by simpa using e2,e3⟩
   exact .inr h
  |succ o=>
   obtain ⟨v,p,rfl,h1,h2⟩:=lr_lc hl
   rcases ih (o:=o) h2 hm with ⟨z,e1,e2,e3⟩|h
   ·refine .inl ⟨.lc a z,by simp;omega,⟨v,_,?_,h1,e2⟩,fun K=>e3 fun r=>K (.lc a r)⟩
    rw [show o+1+m.length=(o+m.length)+1 by omega];rfl
   exact .inr fun K=>h fun r=>K (.lc a r)
 |_=>intro y l m o h;exact False.elim h
theorem put_fz {x:AV} {o:Nat} {K:AV→R}:¬(putA x o .fz K).ok:=by
 induction x generalizing o K with
 |ln=>cases o<;>exact id
 |lc a t _ ih=>cases o with
  |zero=>exact id
  |succ o=>exact ih (o:=o) (K:=fun r=>K (.lc a r))
 |_=>exact id
theorem rep_tot {z:AV} {l:List Value} (hz:lr φ z l):∀n:Nat,∃y,lr φ y (List.replicate n l).flatten∧∀K,repA z n K=K y
 |0=>⟨.ln,by simp;exact rfl,fun _=>rfl⟩
 |n+1=>by
  obtain ⟨y,h1,h2⟩:=rep_tot hz n
  obtain ⟨x,h3,h4⟩:=app_tot hz h1
  exact ⟨x,by rw [List.replicate_succ,List.flatten_cons];exact h3,fun K=>(h2 fun r=>appA z r K).trans (h4 K)⟩
theorem repL_rep {z:AV} {l:List Value} (hz:lr φ z l):∀n:Nat,lr φ (repL z n) (List.replicate n l).flatten
 |0=>by simp;exact rfl
 |n+1=>by
  have app:∀{x y:AV} {l m:List Value},lr φ x l→lr φ y m→lr φ (repL.appL x y) (l++m):=by
   intro x
   induction x with
   |ln=>intro y l m hl hm;rw [lr_ln hl];exact hm
   |lc a t _ ih=>
    intro y l m hl hm
    obtain ⟨v,p,rfl,h1,h2⟩:=lr_lc hl
    exact ⟨v,p++m,rfl,h1,ih h2 hm⟩
   |_=>intro y l m h;exact False.elim h
  rw [List.replicate_succ,List.flatten_cons]
  exact app hz (repL_rep hz n)
end
theorem one_rep {l:List Value} (h:One l) (n:Nat):One (List.replicate n l).flatten:=fun v hv=>by
 obtain ⟨m,hm,hv⟩:=List.mem_flatten.1 hv
 rw [(List.mem_replicate.1 hm).2] at hv
 exact h v hv
section
variable {G:Program} {φ:Phi} {e:TE} {nx:P} {w:World} {t:TV} {ρ:Operand→Value} {o:Oper}
theorem zeT_ok {ty:TypeId} {a:AV} (h:zeT G ty=some a) (φ:Phi):∃i zv,G.info? ty=some i∧i.zero=some zv∧vr φ a zv∧lr φ (cellsA a) zv.cells.toList∧One zv.cells.toList∧zv.cells.size=i.size∧i.size=G.cellsOf ty:=by
 unfold zeT at h
 split at h
 ·cases h
 ·rename_i b hn hb
  split at h
  case isFalse=>cases h
  rename_i hl
  cases h
  obtain ⟨zv,h1,h2⟩:=Option.bind_eq_some_iff.1 hb
  obtain ⟨i,h3,h4⟩:=Option.bind_eq_some_iff.1 h1
  have hv:=ofV_ok h2 φ
  have hs:i.size=G.cellsOf ty:=by simp [Program.cellsOf,h3]
  rcases vr_cells hv with h5|⟨h5,h6⟩
  ·exfalso
   cases a with
   |tu l=>exact hn l rfl
   |ag l=>
    have h8:l= .fz:=h5
    subst h8
    obtain ⟨_,_,h9,_⟩:=hv
    exact h9
   |ln=>exact hv
   |lc _ _=>exact hv
   |_=>cases h5
  refine ⟨i,zv,h3,h4,hv,h5,h6,?_,hs⟩
  have h7:=lr_len h5
  have h8:=Nat.eq_of_beq_eq_true hl
  rw [hs,←h8,h7];simp
 cases h
structure AlD where
 ent:P→Ent
 av:P→AV
def IsAl (x:XO) (t:TV) (D:AlD):Prop:=∀e nx,evX x t (.mk e nx)= .v (D.av nx) (.mk (putE nx e (D.ent nx)) nx.succ)
structure AlC (φ:Phi) (D:AlD) (obj:Obj) (val:Nat→Value) (S:Nat):Prop where
 val:∀q φ' B,φ' q=some ⟨B,0,S⟩→vr φ' (D.av q) (val B)
 blk:∀(q:P) (b:Bk),D.ent q= .bk b.f b.g b.s b.m b.n b.c→b.f=q∧b.s=0∧b.m=false∧∀w:World,(w.alloc obj).there w.heap.size 0 S∧b.n≤S∧∃vs,vs.length=b.n∧lr φ b.c vs∧One vs∧(w.alloc obj).rangeAt w.heap.size 0 vs
 map:∀q es ck,D.ent q= .mp es ck→∃E,obj= .map E ck∧mr φ es E.toList
 loop:∀q st pe t ps as bd,D.ent q≠.lp st pe t ps as bd
def AlOk (G:Program) (φ:Phi) (o:Oper) (ρ:Operand→Value) (x:XO) (t:TV):Prop:=
 ∃D obj val S,IsAl x t D∧AlC φ D obj val S∧∀w,(execOp ρ o).run G w= .ok (.value (val w.heap.size)) (w.alloc obj)
theorem al_good (h:Rel φ e nx w) {x:XO} (ha:AlOk G φ o ρ x t):Good G φ e nx w ((execOp ρ o).run G w) (evX x t (.mk e nx)):=by
 obtain ⟨D,obj,val,S,h1,h2,h3⟩:=ha
 rw [h1 e nx]
 refine ⟨setF φ nx ⟨w.heap.size,0,S⟩,_,_,alloc_stp h rfl (fun b hb=> ?_) (fun b hb=> ?_) (fun es ck hb=>⟨rfl,h2.map nx es ck hb⟩) (fun st pe t ps as bd hb=>absurd hb (h2.loop nx st pe t ps as bd)),h2.val nx _ _ (setF_same _ _),.inl (h3 w)⟩
 ·obtain ⟨e1,e2,e3,_⟩:=h2.blk nx b hb
  exact ⟨e2,.inl ⟨e1,e3⟩⟩
 obtain ⟨e1,e2,e3,e4⟩:=h2.blk nx b hb
 obtain ⟨f1,f2,f3⟩:=e4 w
 exact ⟨f1,by show 0+b.n≤S;omega,f3⟩
theorem al_cells {x:XO} {n:Nat} {c:AV} {vs:List Value} {T:TypeId} {av:P→AV} {val:Nat→Value} (hx:∀e nx,evX x t (.mk e nx)= .v (av nx) (.mk (putE nx e (.bk nx 0 0 false n c)) nx.succ)) (hc:lr φ c vs) (h1:One vs) (hn:vs.length=n)
    (hv:∀q φ' B,φ' q=some ⟨B,0,n⟩→vr φ' (av q) (val B)) (hr:∀w,(execOp ρ o).run G w= .ok (.value (val w.heap.size)) (w.alloc (.cells vs.toArray T))):AlOk G φ o ρ x t:=by
 refine ⟨⟨fun q=> .bk q 0 0 false n c,av⟩,_,val,n,hx,⟨hv,fun q b hb=> ?_,fun q es ck hb=>(by cases hb),fun q st pe t ps as bd hb=>(by cases hb)⟩,hr⟩
 simp only [Ent.bk.injEq] at hb
 obtain ⟨e1,_,e2,e3,e4,e5⟩:=hb
 refine ⟨e1.symm,e2.symm,e3.symm,fun w=>⟨by rw [←hn];exact block_there,by omega,vs,by omega,by rw [←e5];exact hc,h1,?_⟩⟩
 have:=block_range (w:=w) (l:=vs) (m:=[]) (T:=T)
 rwa [List.append_nil] at this
theorem a_al {ty:TypeId} {z:AV} (hz:zeT G ty=some z) (ho:o.op= .alloc ty):AlOk G φ o ρ (.al (lenA (cellsA z)) (cellsA z)) t:=by
 obtain ⟨i,zv,h1,h2,h3,h4,h5,h6,h7⟩:=zeT_ok hz φ
 refine al_cells (T:=ty) (av:=fun q=> .pt q 0) (val:=fun B=> .pointer (some ⟨B,0,none⟩)) (fun e nx=> ?_) h4 h5 (lr_len h4).symm (fun q φ' B hq=>⟨_,hq,rfl⟩) (fun w=> ?_)
 ·show (newB (lenA (cellsA z)) (cellsA z) (.mk e nx) fun q h=>R.v (.pt q 0) h)=_
  rw [newB_eq]
 have hzr:(zeroValue ty).run G w= .ok zv w:=by simp [zeroValue,typeInfo,h1,h2]
 simp [execOp,ho,Instr.alloc,Sem.run_bind,hzr,newVar,newRow]
theorem a_bx {ty:TypeId} {x:Operand} (hx:OD φ t ρ x) (ho:o.op= .box ty x) (hok:(evX (.bx (cOd x)) t (.mk e nx)).ok):AlOk G φ o ρ (.bx (cOd x)) t:=by
 rcases vr_cells hx with h5|⟨h5,h6⟩
 ·exfalso
  have:evX (.bx (cOd x)) t (.mk e nx)=fN (lenA (cellsA (evO (cOd x) t))) fun n=>takeA (cellsA (evO (cOd x) t)) n fun l=>newB n l (.mk e nx) fun q h=> .v (.pt q 0) h:=rfl
  rw [this,h5] at hok
  exact hok
 refine al_cells (T:=ty) (n:=(ρ x).cells.toList.length) (c:=cellsA (evO (cOd x) t)) (av:=fun q=> .pt q 0) (val:=fun B=> .pointer (some ⟨B,0,none⟩)) (fun e nx=> ?_) h5 h6 rfl (fun q φ' B hq=>⟨_,hq,rfl⟩) (fun w=> ?_)
 ·show (fN (lenA (cellsA (evO (cOd x) t))) fun n=>takeA (cellsA (evO (cOd x) t)) n fun l=>newB n l (.mk e nx) fun q h=> .v (.pt q 0) h)=_
  rw [fN_eq,lr_len h5,take_all h5,newB_eq]
 simp [execOp,ho,Instr.box,newVar,newRow]
theorem a_mm {ty j u:TypeId} {r:Option Operand} (hx:∀y,r=some y→OD φ t ρ y) (hu:G.underlying ty=some (.map j u)) (ho:o.op= .makeMap ty r) (hok:(evX (.mm (cMo r)) t (.mk e nx)).ok):AlOk G φ o ρ (.mm (cMo r)) t:=by
 have key:(∀e nx,evX (.mm (cMo r)) t (.mk e nx)= .v (.mp nx) (.mk (putE nx e (.mp .z 0)) nx.succ))∧∀w,(execOp ρ o).run G w= .ok (.value (.map (some w.heap.size))) (w.alloc (.map #[] 0)):=by
  cases r with
  |none=>exact ⟨fun e nx=>newE_eq (.mp .z 0) e nx fun q h=> .v (.mp q) h,fun w=>by simp [execOp,ho,Instr.makeMap]⟩
  |some y=>
   obtain ⟨k,n,h1,_⟩:=onI_ok (show onI (evO (cOd y) t) _=evX (.mm (cMo (some y))) t (.mk e nx) from rfl) hok
   have h2:=hx y rfl
   rw [OD,h1] at h2
   have h3:ρ y= .int k n:=h2
   refine ⟨fun e nx=> ?_,fun w=>by simp [execOp,ho,Instr.makeMap,h3,asInt,asIntOf,run_underlying hu]⟩
   show onI (evO (cOd y) t) (fun _ _=>newE (.mp .z 0) (.mk e nx) fun q h=> .v (.mp q) h)=_
   rw [h1]
   exact newE_eq (.mp .z 0) e nx fun q h=> .v (.mp q) h
 refine ⟨⟨fun _=> .mp .z 0,fun q=> .mp q⟩,.map #[] 0,fun B=> .map (some B),0,key.1,⟨fun q φ' B hq=>⟨_,hq,rfl⟩,fun q b hb=>(by cases hb),fun q es ck hb=> ?_,fun q st pe t ps as bd hb=>(by cases hb)⟩,key.2⟩
 simp only [Ent.mp.injEq] at hb
 obtain ⟨rfl,rfl⟩:=hb
 exact ⟨#[],rfl,rfl⟩
theorem foldl_put (off:Nat):∀(us:List Value) (k:Nat) (cs:Array Value),off+k+us.length≤cs.size→
    ((us.zipIdx k).foldl (fun cs x=>cs.setIfInBounds (off+x.2) x.1) cs).toList=cs.toList.take (off+k)++(us++cs.toList.drop (off+k+us.length))
 |[],k,cs,h=>by simp
 |u::us,k,cs,h=>by
  simp only [List.length_cons] at h
  rw [List.zipIdx_cons,List.foldl_cons,foldl_put off us (k+1) _ (by simp;omega)]
  simp only [Array.toList_setIfInBounds]
  have e1:(cs.toList.set (off+k) u).take (off+(k+1))=cs.toList.take (off+k)++[u]:=by
   rw [←Nat.add_assoc,List.take_add_one,List.take_set,List.getElem?_set_self (by simp;omega)]
   rw [List.set_eq_of_length_le (by simp;omega)];rfl
  have e2:(cs.toList.set (off+k) u).drop (off+(k+1)+us.length)=cs.toList.drop (off+k+(us.length+1)):=by
   rw [List.drop_set_of_lt (by omega)];congr 1;omega
  rw [e1,e2];simp
def PLr (place:Nat→Option (Nat×Nat)):PL→List (Nat×Operand)→Prop
 | .z,l=>l=[]
 | .c o n x r,l=>∃i y m,l=(i,y)::m∧place i=some (o,n)∧x=cOd y∧PLr place r m
theorem fill_tot {place:Nat→Option (Nat×Nat)}:∀{pl:PL} {l:List (Nat×Operand)} {c:AV} {cs:List Value},PLr place pl l→(∀p∈l,OD φ t ρ p.2)→lr φ c cs→One cs→
    (∃z vs,lr φ z vs∧One vs∧vs.length=cs.length∧Instr.fill place cs.toArray (l.map fun p=>(p.1,ρ p.2))=some vs.toArray∧∀K,fillP pl t c K=K z)∨∀K,¬(fillP pl t c K).ok:=by
 intro pl
 induction pl with
 |z=>intro l c cs hp _ hc h1;obtain rfl:l=[]:=hp;exact .inl ⟨c,cs,hc,h1,rfl,rfl,fun _=>rfl⟩
 |c o n x r ih=>
  intro l c cs hp hx hc h1
  obtain ⟨i,y,m,rfl,h2,rfl,h3⟩:=hp
  have hy:OD φ t ρ y:=hx (i,y) (by simp)
  have eF:∀K,fillP (.c o n (cOd y) r) t c K=bR (Nat.beq (lenA (cellsA (evO (cOd y) t))) n) (putA c o (cellsA (evO (cOd y) t)) fun z=>fillP r t z K) (.bad 51):=fun _=>rfl
  rcases vr_cells hy with h5|⟨h5,h6⟩
  ·refine .inr fun K hok=> ?_
   rw [eF,h5,bR_eq] at hok
   split at hok
   ·exact put_fz hok
   exact hok
  by_cases hn:(ρ y).cells.toList.length=n
  ·have hb:Nat.beq (lenA (cellsA (evO (cOd y) t))) n=true:=by rw [lr_len h5,hn];simp
   rcases put_tot (o:=o) hc h5 with ⟨z,e1,e2,e3⟩|hno
   ·have hlen : (cs.take o ++ ((ρ y).cells.toList ++ cs.drop (o + (ρ y).cells.toList.length))).length = cs.length := by
      rw [List.length_append,List.length_append,List.length_take,List.length_drop];omega
    have hfill:Instr.fill place cs.toArray (((i,y)::m).map fun p=>(p.1,ρ p.2))=Instr.fill place (cs.take o++((ρ y).cells.toList++cs.drop (o+(ρ y).cells.toList.length))).toArray (m.map fun p=>(p.1,ρ p.2)):=by
     show (match place i with|none=>none|some (off,size)=>if (ρ y).cells.size≠size||off+(ρ y).cells.size>cs.toArray.size then none else Instr.fill place ((ρ y).cells.zipIdx.foldl (fun (cs:Array Value) (x:Value×Nat)=>cs.setIfInBounds (off+x.2) x.1) cs.toArray) (m.map fun (p:Nat×Operand)=>(p.1,ρ p.2)))=_
     rw [h2]
     have hs:(ρ y).cells.size=n:=by rw [←hn];simp
     have hs2:¬(o+n>cs.length):=by rw [←hn];omega
     simp only [hs,ne_eq,not_true_eq_false,decide_false,Bool.false_or,List.size_toArray,hs2,if_false,Bool.false_eq_true]
     congr 1
     apply Array.ext'
     rw [←Array.foldl_toList,Array.toList_zipIdx]
     have:=foldl_put o (ρ y).cells.toList 0 cs.toArray (by simp at e1 ⊢;exact e1)
     simpa using this
    rcases ih h3 (fun p hp=>hx p (by simp [hp])) e2 (one_app (one_take _ h1) (one_app h6 (one_drop _ h1))) with ⟨z',vs,g1,g2,g3,g4,g5⟩|hno
    ·exact .inl ⟨z',vs,g1,g2,g3.trans hlen,hfill.trans g4,fun K=>by rw [eF,hb];show putA _ _ _ _=_;rw [e3];exact g5 K⟩
    exact .inr fun K hok=>hno K (by rw [eF,hb] at hok;have:putA c o (cellsA (evO (cOd y) t)) (fun z=>fillP r t z K)=_:=e3 _;rw [show bR true (putA c o (cellsA (evO (cOd y) t)) fun z=>fillP r t z K) (.bad 51)=_ from this] at hok;exact hok)
   exact .inr fun K hok => by
    rw [eF,hb] at hok
    exact hno _ hok
  refine .inr fun K hok=> ?_
  rw [eF,bR_eq] at hok
  split at hok
  ·rename_i hb
   rw [lr_len h5] at hb
   exact hn (Nat.eq_of_beq_eq_true hb)
  exact hok
theorem plr_A (z:Nat):∀l:List (Nat×Operand),PLr (fun i=>some (i*z,z)) (partsA z l) l
 |[]=>rfl
 |(i,y)::l=>⟨i,y,l,rfl,rfl,rfl,plr_A z l⟩
theorem plr_S {fs:Array Field}:∀{l:List (Nat×Operand)} {pl:PL},partsS G fs l=some pl→PLr (fun i=>(fs[i]?).map fun f=>(f.offset,G.cellsOf f.type)) pl l
 |[],_,h=>by cases h;rfl
 |(i,y)::l,pl,h=>by
  unfold partsS at h
  split at h
  ·rename_i f r h1 h2
   cases h
   exact ⟨i,y,l,rfl,by simp [h1],rfl,plr_S h2⟩
  cases h
theorem zero_cells (zs:Array Value) (c:Nat):((Array.range (c*zs.size)).map (fun i=>zs[i%zs.size]!))=((List.replicate c zs.toList).flatten).toArray:=by
 apply Array.ext
 ·simp
 intro i h1 h2
 simp at h1
 have hp:0<zs.size:=by
  rcases Nat.eq_zero_or_pos zs.size with h|h
  ·rw [h] at h1;simp at h1
  exact h
 have hm:=Nat.mod_lt i hp
 simp only [Array.getElem_map,Array.getElem_range,getElem!_pos zs (i%zs.size) hm,List.getElem_toArray]
 have:∀(c i:Nat),i<c*zs.size→((List.replicate c zs.toList).flatten)[i]? =some (zs[i%zs.size]'(Nat.mod_lt i hp)):=by
  intro c
  induction c with
  |zero=>intro i h;simp at h
  |succ c ih=>
   intro i h
   rw [List.replicate_succ,List.flatten_cons]
   by_cases hi:i<zs.size
   ·rw [List.getElem?_append_left (by simpa using hi)]
    simp [Nat.mod_eq_of_lt hi,hi]
   rw [List.getElem?_append_right (by simp;omega)]
   have:=ih (i-zs.size) (by rw [Nat.add_mul] at h;omega)
   simp only [Array.length_toList]
   rw [this]
   have e:i%zs.size=(i-zs.size)%zs.size:=Nat.mod_eq_sub_mod (by omega)
   simp only [e]
 have:=this c i h1
 rw [List.getElem?_eq_getElem (by simpa using h1)] at this
 exact (Option.some.inj this).symm
theorem run_zero' {ty:TypeId} {i:TypeInfo} {zv:Value} (h1:G.info? ty=some i) (h2:i.zero=some zv):(zeroValue ty).run G w= .ok zv w:=by simp [zeroValue,typeInfo,h1,h2]
theorem zeT_in {ty:TypeId} {z:AV} (hz:zeT G ty=some z):inT G ty=true:=by
 obtain ⟨i,zv,h1,_⟩:=zeT_ok hz (fun _=>none)
 unfold inT;rw [h1];rfl
theorem a_bs {ty el:TypeId} {n:Nat} {ps:Array (Nat×Operand)} {z:AV} (hx:∀p∈ps.toList,OD φ t ρ p.2) (hu:G.underlying ty=some (.slice el)) (hz:zeT G el=some z) (hn:n*G.cellsOf el≤16777216)
    (ho:o.op= .buildSlice ty n ps) (hok:(evX (.bs (n*G.cellsOf el) n (repL (cellsA z) n) (partsA (G.cellsOf el) ps.toList)) t (.mk e nx)).ok):
    AlOk G φ o ρ (.bs (n*G.cellsOf el) n (repL (cellsA z) n) (partsA (G.cellsOf el) ps.toList)) t:=by
 obtain ⟨i,zv,h1,h2,h3,h4,h5,h6,h7⟩:=zeT_ok hz φ
 have hlen:((List.replicate n zv.cells.toList).flatten).length=n*G.cellsOf el:=by simp [h6,h7]
 rcases fill_tot (plr_A (G.cellsOf el) ps.toList) hx (repL_rep h4 n) (one_rep h5 n) with ⟨y,vs,g1,g2,g3,g4,g5⟩|hno
 ·refine al_cells (T:=el) (n:=n*G.cellsOf el) (c:=y) (av:=fun q=> .sl q 0 n n) (val:=fun B=> .slice (some ⟨B,0,none⟩) n n) (fun e nx=> ?_) g1 g2 (g3.trans hlen) (fun q φ' B hq=>⟨_,hq,rfl⟩) (fun w=> ?_)
  ·show (fillP (partsA (G.cellsOf el) ps.toList) t (repL (cellsA z) n) fun c=>newB (n*G.cellsOf el) c (.mk e nx) fun q h=> .v (.sl q 0 n n) h)=_
   rw [g5,newB_eq]
  have hzc:=zero_cells zv.cells n
  rw [h6,h7] at hzc
  have hgt:¬(16777216<n*G.cellsOf el):=by omega
  by_cases h0:n*G.cellsOf el=0
  ·have e1:(List.replicate n zv.cells.toList).flatten=[]:=List.eq_nil_of_length_eq_zero (hlen.trans h0)
   rw [e1] at g4
   simp [execOp,ho,Instr.buildSlice,run_underlying hu,run_sizeOf' (zeT_in hz),h0,newRow]
   rw [show Array.map (fun (_:Nat)=>(default:Value)) (Array.range 0)= #[] from Array.eq_empty_of_size_eq_zero (by simp),g4];simp
  have hs:zv.cells.size=G.cellsOf el:=h6.trans h7
  rw [←hzc] at g4
  simp only [execOp,ho,Instr.buildSlice,Sem.run_bind,run_underlying hu,run_sizeOf' (zeT_in hz),Result.andThen_ok,Sem.run_pure]
  simp [h0,hgt,run_zero' h1 h2,hs,newRow,g4]
 exact absurd hok (hno _)
theorem a_ms {ty el:TypeId} {l c:Operand} {z:AV} (hl:OD φ t ρ l) (hc:OD φ t ρ c) (hu:G.underlying ty=some (.slice el)) (hz:zeT G el=some z) (hf:fewT G el=true)
    (ho:o.op= .makeSlice ty l c) (hok:(evX (.ms (G.cellsOf el) (cellsA z) (cOd l) (cOd c)) t (.mk e nx)).ok):
    AlOk G φ o ρ (.ms (G.cellsOf el) (cellsA z) (cOd l) (cOd c)) t:=by
 obtain ⟨i,zv,h1,h2,h3,h4,h5,h6,h7⟩:=zeT_ok hz φ
 obtain ⟨kl,n1,e1,hok1⟩:=onI_ok (show onI (evO (cOd l) t) _=evX (.ms (G.cellsOf el) (cellsA z) (cOd l) (cOd c)) t (.mk e nx) from rfl) hok
 obtain ⟨kc,n2,e2,hok2⟩:=onI_ok hok1 hok
 obtain ⟨ln,rfl,hok3⟩:=onNt_ok hok2 hok
 obtain ⟨cn,rfl,hok4⟩:=onNt_ok hok3 hok
 obtain ⟨hb,_⟩:=bR_ok hok4 hok
 rw [bB_eq] at hb
 have hle:ln≤cn∧cn≤1000000:=by
  split at hb
  ·rename_i h8;exact ⟨Nat.le_of_ble_eq_true h8,Nat.le_of_ble_eq_true hb⟩
  cases hb
 rw [OD,e1] at hl
 rw [OD,e2] at hc
 have hl':ρ l= .int kl (ln:Int):=hl
 have hc':ρ c= .int kc (cn:Int):=hc
 obtain ⟨y,g1,g2⟩:=rep_tot h4 cn
 have hlen:((List.replicate cn zv.cells.toList).flatten).length=cn*G.cellsOf el:=by simp [h6,h7]
 refine al_cells (T:=el) (n:=cn*G.cellsOf el) (c:=y) (av:=fun q=> .sl q 0 ln cn) (val:=fun B=> .slice (some ⟨B,0,none⟩) ln cn) (fun e nx=> ?_) g1 (one_rep h5 cn) hlen (fun q φ' B hq=>⟨_,hq,rfl⟩) (fun w=> ?_)
 ·show (onI (evO (cOd l) t) fun _ l=>onI (evO (cOd c) t) fun _ c=>onNt l fun l=>onNt c fun c=>bR (bB (Nat.ble l c) (Nat.ble c 1000000) false) (repA (cellsA z) c fun cs=>fN (Nat.mul c (G.cellsOf el)) fun n=>newB n cs (.mk e nx) fun q h=> .v (.sl q 0 l c) h) (.bad 75))=_
  rw [e1,e2]
  show bR (bB (Nat.ble ln cn) (Nat.ble cn 1000000) false) (repA (cellsA z) cn fun cs=>fN (Nat.mul cn (G.cellsOf el)) fun n=>newB n cs (.mk e nx) fun q h=> .v (.sl q 0 ln cn) h) (.bad 75)=_
  rw [show bB (Nat.ble ln cn) (Nat.ble cn 1000000) false=true by rw [Nat.ble_eq_true_of_le hle.1];exact Nat.ble_eq_true_of_le hle.2]
  show repA (cellsA z) cn _=_
  rw [g2,fN_eq,newB_eq];rfl
 have hzc:=zero_cells zv.cells cn
 have hs:zv.cells.size=G.cellsOf el:=h6.trans h7
 rw [hs] at hzc
 have hby:i.bytes≤1048576:=by
  have:=Nat.le_of_ble_eq_true hf
  simpa [Program.bytesOf,h1] using this
 have w1:IntKind.i64.wrap (ln:Int)=(ln:Int):=in_wrap (k:= .i64) (n:= .ofNat ln) (Nat.ble_eq_true_of_le (by omega))
 have w2:IntKind.i64.wrap (cn:Int)=(cn:Int):=in_wrap (k:= .i64) (n:= .ofNat cn) (Nat.ble_eq_true_of_le (by omega))
 have hm:i.bytes*cn≤1048576*1000000:=Nat.mul_le_mul hby hle.2
 have hm2:¬(281474976710656<(i.bytes:Int)*(cn:Int)):=by
  have:((i.bytes*cn:Nat):Int)≤((1048576*1000000:Nat):Int):=by exact_mod_cast hm
  rw [Int.natCast_mul] at this;omega
 have hroom:¬(roomBytes<cn*i.bytes):=by rw [Nat.mul_comm];simp only [roomBytes];omega
 have hsz:(sizeOf el).run G w= .ok (G.cellsOf el) w:=run_sizeOf' (zeT_in hz)
 have i1:¬((ln:Int)<0):=by omega
 have i2:¬((cn:Int)<0):=by omega
 have i3:¬((ln:Int)>(cn:Int)):=by omega
 by_cases h0:cn*G.cellsOf el=0
 ·have ez:(List.replicate cn zv.cells.toList).flatten=[]:=List.eq_nil_of_length_eq_zero (hlen.trans h0)
  rw [ez]
  simp [execOp,ho,hl',hc',Instr.makeSlice,run_underlying hu,asInt,asIntOf,typeInfo,h1,w1,w2,i1,i2,i3,hm2,askRoom,hsz,h0,newRow]
  rw [show Array.map (fun (_:Nat)=>(default:Value)) (Array.range 0)= #[] from Array.eq_empty_of_size_eq_zero (by simp)]
 simp [execOp,ho,hl',hc',Instr.makeSlice,run_underlying hu,asInt,asIntOf,typeInfo,h1,w1,w2,i1,i2,i3,hm2,askRoom,hsz,h0,newRow,run_zero' h1 h2,hs,hzc]
end
end Go.Ev
namespace Go.Ev
open Classical
section
variable {G:Program} {φ:Phi} {e:TE} {nx:P} {w:World} {t:TV} {ρ:Operand→Value} {o:Oper} {h:Hp}
theorem p_bu {ty:TypeId} {ps:Array (Nat×Operand)} {pl:PL} {z:AV} {place:Nat→Option (Nat×Nat)} (hx:∀p∈ps.toList,OD φ t ρ p.2) (hz:zeT G ty=some z) (hpl:PLr place pl ps.toList) (ho:o.op= .build ty ps)
    (hrun:∀zv:Value,(∀w,(zeroValue ty).run G w= .ok zv w)→∀cs:List Value,Instr.fill place zv.cells (ps.toList.map fun p=>(p.1,ρ p.2))=some cs.toArray→∀w,(Instr.build ty (ps.map fun (i,x)=>(i,ρ x))).run G w= .ok (.agg cs.toArray) w)
    (hok:(evX (.bu (cellsA z) pl) t h).ok):Pu G φ o ρ h (evX (.bu (cellsA z) pl) t h):=by
 obtain ⟨i,zv,h1,h2,h3,h4,h5,h6,h7⟩:=zeT_ok hz φ
 have e0:evX (.bu (cellsA z) pl) t h=fillP pl t (cellsA z) fun l=> .v (.ag l) h:=rfl
 rw [e0] at hok ⊢
 rcases fill_tot hpl hx h4 h5 with ⟨y,vs,g1,g2,g3,g4,g5⟩|hno
 ·rw [g5]
  refine ⟨.ag y,.agg vs.toArray,rfl,⟨_,rfl,by simpa using g1,by simpa using g2⟩,fun w=> ?_⟩
  have:=hrun zv (fun w=>run_zero' h1 h2) vs (by simpa using g4) w
  simp [execOp,ho,this]
 exact absurd hok (hno _)
theorem mapM_run {α β:Type} (f:α→Sem β) (g:α→β) (w:World):∀l:List α,(∀x∈l,(f x).run G w= .ok (g x) w)→(l.mapM f).run G w= .ok (l.map g) w
 |[],_=>by simp
 |x::l,hl=>by
  rw [List.mapM_cons]
  simp [hl x (by simp),mapM_run f g w l fun y hy=>hl y (by simp [hy])]
theorem p_buS {ty:TypeId} {ps:Array (Nat×Operand)} {pl:PL} {z:AV} {fs:Array Field} (hx:∀p∈ps.toList,OD φ t ρ p.2) (hz:zeT G ty=some z) (hu:G.underlying ty=some (.struct fs)) (hpl:partsS G fs ps.toList=some pl) (hfs:(fs.toList.all fun f=>inT G f.type)=true)
    (ho:o.op= .build ty ps) (hok:(evX (.bu (cellsA z) pl) t h).ok):Pu G φ o ρ h (evX (.bu (cellsA z) pl) t h):=by
 refine p_bu hx hz (plr_S hpl) ho (fun zv hzr cs hcs w=> ?_) hok
 have hm:(fs.mapM fun f=>do pure (f.offset,←sizeOf f.type):Sem (Array (Nat×Nat))).run G w= .ok (fs.map fun f=>(f.offset,G.cellsOf f.type)) w:=by
  rw [Array.mapM_eq_mapM_toList,Sem.run_map,mapM_run _ (fun f=>(f.offset,G.cellsOf f.type)) w fs.toList fun f hf=>by
   simp [run_sizeOf' (List.all_eq_true.1 hfs f hf)]]
  simp
  apply Array.ext';simp
 have hp:(fun (i:Nat)=>(fs.map fun (f:Field)=>(f.offset,G.cellsOf f.type))[i]?)=fun (i:Nat)=>(fs[i]?).map fun (f:Field)=>(f.offset,G.cellsOf f.type):=by funext i;simp
 have he:(ps.map fun (i,x)=>(i,ρ x)).toList=ps.toList.map fun p=>(p.1,ρ p.2):=by simp
 simp only [Instr.build,Sem.run_bind,hzr,Result.andThen_ok,run_underlying hu,hm,hp,he,hcs,Sem.run_pure]
theorem p_buA {ty el:TypeId} {n:Nat} {ps:Array (Nat×Operand)} {z:AV} (hx:∀p∈ps.toList,OD φ t ρ p.2) (hz:zeT G ty=some z) (hu:G.underlying ty=some (.array n el)) (hin:inT G el=true)
    (ho:o.op= .build ty ps) (hok:(evX (.bu (cellsA z) (partsA (G.cellsOf el) ps.toList)) t h).ok):Pu G φ o ρ h (evX (.bu (cellsA z) (partsA (G.cellsOf el) ps.toList)) t h):=by
 refine p_bu hx hz (plr_A _ _) ho (fun zv hzr cs hcs w=> ?_) hok
 have he:(ps.map fun (i,x)=>(i,ρ x)).toList=ps.toList.map fun p=>(p.1,ρ p.2):=by simp
 simp only [Instr.build,Sem.run_bind,hzr,Result.andThen_ok,run_underlying hu,run_sizeOf' hin,he,hcs,Sem.run_pure]
theorem ldT_agg {ty:TypeId} (h:udT G ty=true):(aggT G ty=true∧ldT G ty=G.cellsOf ty+1∧inT G ty=true∧(∃d,G.underlying ty=some d∧d.isRow=true)∧∀w,(isAgg ty).run G w= .ok true w)∨
    (ldT G ty=0∧∀w,(isAgg ty).run G w= .ok false w):=by
 unfold udT at h
 obtain ⟨d,hd⟩:=Option.isSome_iff_exists.1 h
 have hin:inT G ty=true:=by
  unfold Program.underlying at hd
  unfold inT
  cases hi:G.info? ty with
  |none=>simp [hi] at hd
  |some i=>rfl
 have ha:∀w,(isAgg ty).run G w= .ok d.isRow w:=fun w=>by
  unfold isAgg
  rw [Sem.run_bind,run_underlying hd w]
  cases d<;>simp [TypeDesc.isRow]
 have hb:aggT G ty=d.isRow:=by
  unfold aggT;rw [hd];cases d<;>rfl
 cases hr:d.isRow with
 |true=>exact .inl ⟨hb.trans hr,by unfold ldT;rw [hb,hr];rfl,hin,⟨d,hd,hr⟩,fun w=>(ha w).trans (by rw [hr])⟩
 |false=>exact .inr ⟨by unfold ldT;rw [hb,hr];rfl,fun w=>(ha w).trans (by rw [hr])⟩
theorem part_ok {ty:TypeId} {l:AV} {cs:Array Value} {off:Nat} {K:AV→R} {r:R} (h:udT G ty=true) (hl:lr φ l cs.toList) (h1:One cs.toList) (hr:(ldC (ldT G ty) (lenA l) l off fun v=>fV v K)=r) (hok:r.ok):
    ∃a v,K a=r∧vr φ a v∧∀w,(part ty cs off).run G w= .ok v w:=by
 rcases ldT_agg h with ⟨_,e1,hin,_,ha⟩|⟨e1,ha⟩
 ·rw [e1] at hr
  obtain ⟨e2,e3⟩:=bR_ok (show bR (Nat.ble (Nat.add off (G.cellsOf ty)) (lenA l)) (takeA (dropA l off) (G.cellsOf ty) fun l=>fV (.ag l) K) (.bad 38)=r from hr) hok
  obtain ⟨y,e4,e5,e6⟩:=lr_take (lr_drop off hl) e3 hok
  rw [fV_eq] at e6
  have hle:off+G.cellsOf ty≤cs.size:=by have:=Nat.le_of_ble_eq_true e2;rw [lr_len hl] at this;simpa using this
  refine ⟨.ag y,.agg (cs.extract off (off+G.cellsOf ty)),e6,⟨_,rfl,?_,?_⟩,fun w=> ?_⟩
  ·have : (cs.extract off (off + G.cellsOf ty)).toList = (cs.toList.drop off).take (G.cellsOf ty) := by
     rw [Array.toList_extract,List.extract_eq_take_drop,Nat.add_sub_cancel_left]
   rw [this];exact e4
  ·have : (cs.extract off (off + G.cellsOf ty)).toList = (cs.toList.drop off).take (G.cellsOf ty) := by
     rw [Array.toList_extract,List.extract_eq_take_drop,Nat.add_sub_cancel_left]
   rw [this];exact one_take _ (one_drop _ h1)
  simp [part,ha,run_sizeOf' hin]
 rw [e1] at hr
 obtain ⟨a,v,e2,e3,e4⟩:=lr_nth hl (show (nthA l off fun v=>fV v K)=r from hr) hok
 rw [fV_eq] at e4
 have e2':cs[off]? =some v:=by simpa using e2
 exact ⟨a,v,e4,e3,fun w=>by simp [part,ha,e2']⟩
theorem load_ok {ty:TypeId} {c:AV} {vs:List Value} {B d off n:Nat} {K:AV→R} {r:R} (h:udT G ty=true) (hl:lr φ c vs) (h1:One vs) (hn:vs.length=n) (hw:w.rangeAt B d vs) (hr:(ldC (ldT G ty) n c off fun v=>fV v K)=r) (hok:r.ok):
    ∃a v,K a=r∧vr φ a v∧(loadVar ty ⟨B,d+off,none⟩).run G w= .ok v w:=by
 rcases ldT_agg h with ⟨_,e1,hin,⟨D,hD,hD2⟩,ha⟩|⟨e1,ha⟩
 ·rw [e1] at hr
  obtain ⟨e2,e3⟩:=bR_ok (show bR (Nat.ble (Nat.add off (G.cellsOf ty)) n) (takeA (dropA c off) (G.cellsOf ty) fun l=>fV (.ag l) K) (.bad 38)=r from hr) hok
  obtain ⟨y,e4,e5,e6⟩:=lr_take (lr_drop off hl) e3 hok
  rw [fV_eq] at e6
  have hle:off+G.cellsOf ty≤vs.length:=by have:=Nat.le_of_ble_eq_true e2;rw [hn];exact this
  have hlen:((vs.drop off).take (G.cellsOf ty)).length=G.cellsOf ty:=by simp;omega
  refine ⟨.ag y,.agg ((vs.drop off).take (G.cellsOf ty)).toArray,e6,⟨_,rfl,by simpa using e4,by simpa using one_take _ (one_drop _ h1)⟩,?_⟩
  refine run_loadVar_mid w B (d+off) ty _ D (range_take (range_drop hw (by omega))) hD hD2 ?_
  rw [hlen]
  unfold inT at hin
  obtain ⟨i,hi⟩:=Option.isSome_iff_exists.1 hin
  simp [Program.cellsOf,hi]
 rw [e1] at hr
 obtain ⟨a,v,e2,e3,e4⟩:=lr_nth hl (show (nthA c off fun v=>fV v K)=r from hr) hok
 rw [fV_eq] at e4
 exact ⟨a,v,e4,e3,by simp [loadVar,ha,hw off v e2]⟩
theorem p_fi {ty:TypeId} {x:Operand} {i:Nat} {fs:Array Field} {f:Field} (hx:OD φ t ρ x) (h1:G.underlying ty=some (.struct fs)) (h2:fs[i]? =some f) (h3:udT G f.type=true) (ho:o.op= .field ty x i) (hok:(evX (.fi f.offset (ldT G f.type) (cOd x)) t h).ok):
    Pu G φ o ρ h (evX (.fi f.offset (ldT G f.type) (cOd x)) t h):=by
 obtain ⟨l,e1,e2⟩:=onA_ok (show (onA (evO (cOd x) t) fun l=>ldC (ldT G f.type) (lenA l) l f.offset fun v=>fV v fun v=> .v v h)=evX (.fi f.offset (ldT G f.type) (cOd x)) t h from rfl) hok
 rw [OD,e1] at hx
 obtain ⟨u,hx',hu,hu1⟩:=hx
 obtain ⟨a,v,e3,e4,e5⟩:=part_ok h3 hu hu1 e2 hok
 exact ⟨a,v,e3.symm,e4,fun w=>by simp [execOp,ho,hx',Instr.field,run_underlying h1,h2,asAgg,e5]⟩
theorem p_ix {ty e:TypeId} {m:Nat} {x i:Operand} (hx:OD φ t ρ x) (hi:OD φ t ρ i) (h1:G.underlying ty=some (.array m e)) (h2:udT G e=true) (ho:o.op= .index ty x i) (hok:(evX (.ix m (G.cellsOf e) (ldT G e) (cOd x) (cOd i)) t h).ok):
    Pu G φ o ρ h (evX (.ix m (G.cellsOf e) (ldT G e) (cOd x) (cOd i)) t h):=by
 obtain ⟨k,n,e1,e2⟩:=onI_ok (show (onI (evO (cOd i) t) _)=evX (.ix m (G.cellsOf e) (ldT G e) (cOd x) (cOd i)) t h from rfl) hok
 obtain ⟨j,rfl,e3⟩:=onNt_ok e2 hok
 obtain ⟨l,e4,e5⟩:=onA_ok e3 hok
 obtain ⟨e6,e7⟩:=bR_ok e5 hok
 have hlt:j<m:=Nat.le_of_ble_eq_true e6
 rw [OD,e1] at hi
 have hi':ρ i= .int k (j:Int):=hi
 rw [OD,e4] at hx
 obtain ⟨u,hx',hu,hu1⟩:=hx
 obtain ⟨a,v,e8,e9,e10⟩:=part_ok h2 hu hu1 e7 hok
 have hin:inT G e=true:=by
  unfold udT Program.underlying at h2
  unfold inT
  cases hi:G.info? e with
  |none=>simp [hi] at h2
  |some i=>rfl
 refine ⟨a,v,e8.symm,e9,fun w=> ?_⟩
 have hl:(j:Int)<m:=by omega
 have e10':(part e u (j*G.cellsOf e)).run G w= .ok v w:=e10 w
 simp [execOp,ho,hx',hi',Instr.index,run_underlying h1,asIntOf,hlt,run_sizeOf' hin,e10']
end
end Go.Ev
namespace Go.Ev
open Classical
section
variable {G:Program} {φ:Phi} {e:TE} {nx:P} {w:World} {t:TV} {ρ:Operand→Value} {o:Oper} {h:Hp}
def BV (ρ:Operand→Value) (lo:Option Operand) (d m:Nat):Prop:=(lo=none∧m=d)∨∃y k,lo=some y∧ρ y= .int k (m:Int)
theorem bv_ok {lo:Option Operand} {d:Nat} {K:Nat→R} {r:R} (h:∀y,lo=some y→OD φ t ρ y) (hr:evN (cMo lo) t d K=r) (ho:r.ok):∃m,BV ρ lo d m∧K m=r:=by
 rcases evN_ok h hr ho with ⟨e1,e2⟩|⟨y,k,m,e1,e2,e3⟩
 ·exact ⟨d,.inl ⟨e1,rfl⟩,e2⟩
 exact ⟨m,.inr ⟨y,k,e1,e2⟩,e3⟩
theorem sb_run {b:Bool} {len cap l j m:Nat} {lo hi mx:Option Operand} (hm:okMx hi mx=true) (h1:BV ρ lo 0 l) (h2:BV ρ hi len j) (h3:BV ρ mx cap m) (e1:l≤j) (e2:hi≠none→j≤m) (e3:mx≠none→m≤cap):
    (Instr.sliceBounds b len cap (lo.map ρ) (hi.map ρ) (mx.map ρ)).run G w= .ok (l,j,m) w:=by
 have sb:∀(k:IntKind) (i y:Nat) (c:BoundsCode),i≤y→(Instr.sliceBound (.int k (i:Int)) y c).run G w= .ok i w:=fun k i y c hle=>by
  have:(0:Int)≤i∧(i:Int)≤y:=⟨by omega,by omega⟩
  simp [Instr.sliceBound,asIntOf,this]
 rcases h1 with ⟨rfl,rfl⟩|⟨y1,k1,rfl,f1⟩<;>rcases h2 with ⟨rfl,rfl⟩|⟨y2,k2,rfl,f2⟩<;>rcases h3 with ⟨rfl,rfl⟩|⟨y3,k3,rfl,f3⟩<;>
  first
   |(simp [okMx] at hm;done)
   | (simp only [ne_eq, not_true_eq_false, reduceCtorEq, not_false_eq_true, forall_const, false_implies] at e2 e3
      simp [Instr.sliceBounds, *])
theorem le3_ok {l j m c:Nat} (h:le3 l j m c=true):l≤j∧j≤m∧m≤c:=by
 unfold le3 at h
 rw [bB_eq,bB_eq] at h
 split at h
 ·split at h
  ·exact ⟨Nat.le_of_ble_eq_true ‹_›,Nat.le_of_ble_eq_true ‹_›,Nat.le_of_ble_eq_true h⟩
  cases h
 cases h
theorem slK_ok {b:P} {q z l j m:Nat} {L:Loc} (hb:φ b=some L):∃a,slK b q z l j m h= .v a h∧vr φ a (.slice (some (if m=l then (⟨L.B,L.d+q,none⟩:Addr) else (⟨L.B,L.d+q,none⟩:Addr).add (l*z))) (j-l) (m-l)):=by
 have e0:slK b q z l j m h=bR (Nat.beq m l) (.v (.sl b q (j-l) (m-l)) h) (.v (.sl b (q+l*z) (j-l) (m-l)) h):=rfl
 rw [e0,bR_eq]
 split
 ·rename_i hm
  have:=Nat.eq_of_beq_eq_true hm
  exact ⟨_,rfl,L,hb,by rw [if_pos this]⟩
 rename_i hm
 have:m≠l:=fun hh=>hm (by rw [hh];simp)
 exact ⟨_,rfl,L,hb,by rw [if_neg this,add_mid,Nat.add_assoc]⟩
theorem p_sa {ty e:TypeId} {n:Nat} {x:Operand} {lo hi mx:Option Operand} (hx:OD φ t ρ x) (hlo:∀y,lo=some y→OD φ t ρ y) (hhi:∀y,hi=some y→OD φ t ρ y) (hmx:∀y,mx=some y→OD φ t ρ y)
    (hu:G.underlying ty=some (.array n e)∨∃a,G.underlying ty=some (.pointer a)∧G.underlying a=some (.array n e)) (hin:inT G e=true) (hm:okMx hi mx=true)
    (ho:o.op= .slice ty x lo hi mx) (hok:(evX (.sa n (G.cellsOf e) (cOd x) (cMo lo) (cMo hi) (cMo mx)) t h).ok):Pu G φ o ρ h (evX (.sa n (G.cellsOf e) (cOd x) (cMo lo) (cMo hi) (cMo mx)) t h):=by
 obtain ⟨b,q,e1,e2⟩:=onP_ok (show (onP (evO (cOd x) t) fun b o=>evN (cMo lo) t 0 fun l=>evN (cMo hi) t n fun j=>evN (cMo mx) t n fun m=>bR (le3 l j m n) (slK b o (G.cellsOf e) l j m h) (.bad 71))=evX (.sa n (G.cellsOf e) (cOd x) (cMo lo) (cMo hi) (cMo mx)) t h from rfl) hok
 obtain ⟨l,b1,e3⟩:=bv_ok hlo e2 hok
 obtain ⟨j,b2,e4⟩:=bv_ok hhi e3 hok
 obtain ⟨m,b3,e5⟩:=bv_ok hmx e4 hok
 obtain ⟨e6,e7⟩:=bR_ok e5 hok
 obtain ⟨f1,f2,f3⟩:=le3_ok e6
 rw [OD,e1] at hx
 obtain ⟨L,hL,hx'⟩:=hx
 obtain ⟨a,g1,g2⟩:=slK_ok (h:=h) (q:=q) (z:=G.cellsOf e) (l:=l) (j:=j) (m:=m) hL
 have hb:∀w,(Instr.sliceBounds false n n (lo.map ρ) (hi.map ρ) (mx.map ρ)).run G w= .ok (l,j,m) w:=fun w=>sb_run hm b1 b2 b3 f1 (fun _=>f2) (fun _=>f3)
 refine ⟨a,_,e7.symm.trans g1,g2,fun w=> ?_⟩
 rcases hu with hu|⟨A,hu,hu2⟩
 ·simp [execOp,ho,hx',Instr.sliceAt,run_underlying hu,Instr.sureAddr,hb,run_sizeOf' hin]
 simp [execOp,ho,hx',Instr.sliceAt,Instr.slice,run_underlying hu,run_underlying hu2,asAddr,hb,run_sizeOf' hin]
theorem p_ss {ty:TypeId} {x:Operand} {lo hi mx:Option Operand} (hx:OD φ t ρ x) (hlo:∀y,lo=some y→OD φ t ρ y) (hhi:∀y,hi=some y→OD φ t ρ y)
    (hu:G.underlying ty=some .string) (ho:o.op= .slice ty x lo hi mx) (hok:(evX (.ss (cOd x) (cMo lo) (cMo hi) (cMo mx)) t h).ok):Pu G φ o ρ h (evX (.ss (cOd x) (cMo lo) (cMo hi) (cMo mx)) t h):=by
 obtain ⟨s,e1,e2⟩:=onS_ok (show (onS (evO (cOd x) t) fun s=>evN (cMo lo) t 0 fun l=>evN (cMo hi) t (lenS s) fun j=>MO.rec (motive:=fun _=>R) (bR (Nat.ble l j) (takeS s j fun r=>fS (dropS r l) fun r=> .v (.st r) h) (.bad 70)) (fun _=> .bad 70) (cMo mx))=evX (.ss (cOd x) (cMo lo) (cMo hi) (cMo mx)) t h from rfl) hok
 obtain ⟨l,b1,e3⟩:=bv_ok hlo e2 hok
 obtain ⟨j,b2,e4⟩:=bv_ok hhi e3 hok
 cases mx with
 |some y=>rw [←e4] at hok;exact False.elim hok
 |none=>
  obtain ⟨e5,e6⟩:=bR_ok e4 hok
  obtain ⟨e7,e8⟩:=takeS_ok e6 hok
  rw [fS_eq,dropS_eq] at e8
  rw [lenS_eq] at b2
  rw [OD,e1] at hx
  obtain ⟨hs,hx'⟩:=hx
  have hb:∀w,(Instr.sliceBounds false (bytesOf s).size (bytesOf s).size (lo.map ρ) (hi.map ρ) none).run G w= .ok (l,j,(bytesOf s).size) w:=fun w=>by
   have:=sb_run (G:=G) (w:=w) (b:=false) (len:=s.length) (cap:=s.length) (lo:=lo) (hi:=hi) (mx:=none) (by cases hi<;>rfl) b1 b2 (.inl ⟨rfl,rfl⟩) (Nat.le_of_ble_eq_true e5) (fun _=>e7) (fun hh=>absurd rfl hh)
   rw [size_bytesOf];exact this
  refine ⟨_,.string (bytesOf ((s.take j).drop l)),e8.symm,⟨fun x hx=>hs x (List.mem_of_mem_take (List.mem_of_mem_drop hx)),rfl⟩,fun w=> ?_⟩
  simp [execOp,ho,hx',Instr.sliceAt,Instr.slice,run_underlying hu,hb,ext_bytesOf]
theorem p_le {x:Operand} {ty el:TypeId} {c:Call} (hx:OD φ t ρ x) (h1:G.underlying ty=some (.slice el)) (hc:c.callee= .builtin .len) (ha:c.args= #[x]) (ht:c.argTypes= #[ty]) (ho:o.op= .call c) (hok:(evX (.le (cOd x)) t h).ok):Pu G φ o ρ h (evX (.le (cOd x)) t h):=by
 have e0:evX (.le (cOd x)) t h=lnA (evO (cOd x) t) h:=rfl
 rw [e0] at hok ⊢
 have hx':vr φ (evO (cOd x) t) (ρ x):=hx
 have fin:∀(base:Option Addr) (n cp:Nat),ρ x= .slice base n cp→∀w,(execOp ρ o).run G w= .ok (.value (.int .i64 (n:Int))) w:=fun base n cp hr w=>by
  simp [execOp,ho,resolve,hc,ha,ht,hr,invoke,builtin,Builtin.len_,run_underlying h1,goInt]
 generalize evO (cOd x) t=a at hx' hok
 cases a with
 |sl b q n c=>obtain ⟨l,_,e⟩:=hx';exact ⟨_,_,rN_eq _ _,rfl,fin _ _ _ e⟩
 |su b q n c=>obtain ⟨l,c,_,_,_,_,e⟩:=hx';exact ⟨_,_,rN_eq _ _,rfl,fin _ _ _ e⟩
 |sn=>have e:ρ x=_:=hx';exact ⟨_,_,rN_eq _ _,rfl,fin _ _ _ e⟩
 |se=>obtain ⟨l,c,e⟩:=hx';exact ⟨_,_,rN_eq _ _,rfl,fin _ _ _ e⟩
 |_=>exact False.elim hok
theorem p_la {x:Operand} {ty el:TypeId} {n:Nat} {c:Call} (h1:G.underlying ty=some (.array n el)) (hc:c.callee= .builtin .len) (ha:c.args= #[x]) (ht:c.argTypes= #[ty]) (ho:o.op= .call c):Pu G φ o ρ h (evX (.mv (.k (.it .i64 n))) t h):=
 ⟨_,.int .i64 (n:Int),rfl,rfl,fun w=>by simp [execOp,ho,resolve,hc,ha,ht,invoke,builtin,Builtin.len_,run_underlying h1,goInt]⟩
theorem p_cp {x:Operand} {ty el:TypeId} {c:Call} (hx:OD φ t ρ x) (h1:G.underlying ty=some (.slice el)) (hc:c.callee= .builtin .cap) (ha:c.args= #[x]) (ht:c.argTypes= #[ty]) (ho:o.op= .call c) (hok:(evX (.cp (cOd x)) t h).ok):Pu G φ o ρ h (evX (.cp (cOd x)) t h):=by
 have e0:(onS3 (evO (cOd x) t) (fun _ _ _ c=>rN c h) (fun _ _ _ _=> .bad 83) (rN 0 h))=evX (.cp (cOd x)) t h:=rfl
 have hx':vr φ (evO (cOd x) t) (ρ x):=hx
 have fin:∀(base:Option Addr) (n cp:Nat),ρ x= .slice base n cp→∀w,(execOp ρ o).run G w= .ok (.value (.int .i64 (cp:Int))) w:=fun base n cp hr w=>by
  simp [execOp,ho,resolve,hc,ha,ht,hr,invoke,builtin,Builtin.cap_,run_underlying h1,goInt]
 rcases onS3_ok e0 hok with ⟨b,q,n,cp,e1,e2⟩|⟨b,q,n,z,_,e2⟩|⟨e1,e2⟩
 ·rw [e1] at hx';obtain ⟨l,_,e⟩:=hx';exact ⟨_,_,e2.symm.trans (rN_eq _ _),rfl,fin _ _ _ e⟩
 ·rw [←e2] at hok;exact False.elim hok
 rw [e1] at hx';have e:ρ x=_:=hx';exact ⟨_,_,e2.symm.trans (rN_eq _ _),rfl,fin _ _ _ e⟩
theorem p_m2 {mx:Bool} {x y:Operand} {c:Call} (hx:OD φ t ρ x) (hy:OD φ t ρ y) (hc:c.callee= .builtin (if mx then .max else .min)) (ha:c.args= #[x,y]) (ho:o.op= .call c) (hok:(evX (.m2 mx (cOd x) (cOd y)) t h).ok):Pu G φ o ρ h (evX (.m2 mx (cOd x) (cOd y)) t h):=by
 obtain ⟨k,m,e1,e2⟩:=onI_ok (show onI (evO (cOd x) t) _=evX (.m2 mx (cOd x) (cOd y)) t h from rfl) hok
 obtain ⟨k2,n,e3,e4⟩:=onI_ok e2 hok
 rw [OD,e1] at hx
 rw [OD,e3] at hy
 have hx':ρ x= .int k m:=hx
 have hy':ρ y= .int k2 n:=hy
 cases mx with
 |true=>
  have e5:bR (iLt m n) (.v (.it k n) h) (.v (.it k m) h)=evX (.m2 true (cOd x) (cOd y)) t h:=e4
  rw [bR_eq,iLt_eq] at e5
  simp only [if_true] at hc
  refine ⟨.it k (if n>m then n else m),.int k (if n>m then n else m),?_,rfl,fun w=>by simp [execOp,ho,resolve,hc,ha,hx',hy',invoke,builtin,Builtin.max_,Builtin.max2]⟩
  rw [←e5];by_cases hh:m<n<;>simp [hh]
 |false=>
  have e5:bR (iLt n m) (.v (.it k n) h) (.v (.it k m) h)=evX (.m2 false (cOd x) (cOd y)) t h:=e4
  rw [bR_eq,iLt_eq] at e5
  simp only [Bool.false_eq_true,if_false] at hc
  refine ⟨.it k (if n<m then n else m),.int k (if n<m then n else m),?_,rfl,fun w=>by simp [execOp,ho,resolve,hc,ha,hx',hy',invoke,builtin,Builtin.min_,Builtin.min2]⟩
  rw [←e5];by_cases hh:n<m<;>simp [hh]
theorem pk_eq {mx:Bool} {m n:Int} {K:Int→R}:pkI mx m n K=K (if mx then (if n>m then n else m) else (if n<m then n else m)):=by
 cases mx with
 |true=>
  show bR (iLt m n) (K n) (K m)=_
  rw [bR_eq,iLt_eq];by_cases hh:m<n<;>simp [hh]
 |false=>
  show bR (iLt n m) (K n) (K m)=_
  rw [bR_eq,iLt_eq];by_cases hh:n<m<;>simp [hh]
theorem p_m3 {mx:Bool} {x y z:Operand} {c:Call} (hx:OD φ t ρ x) (hy:OD φ t ρ y) (hz:OD φ t ρ z) (hc:c.callee= .builtin (if mx then .max else .min)) (ha:c.args= #[x,y,z]) (ho:o.op= .call c) (hok:(evX (.m3 mx (cOd x) (cOd y) (cOd z)) t h).ok):Pu G φ o ρ h (evX (.m3 mx (cOd x) (cOd y) (cOd z)) t h):=by
 obtain ⟨k,m,e1,e2⟩:=onI_ok (show onI (evO (cOd x) t) _=evX (.m3 mx (cOd x) (cOd y) (cOd z)) t h from rfl) hok
 obtain ⟨k2,n,e3,e4⟩:=onI_ok e2 hok
 obtain ⟨k3,p,e5,e6⟩:=onI_ok e4 hok
 rw [OD,e1] at hx
 rw [OD,e3] at hy
 rw [OD,e5] at hz
 have hx':ρ x= .int k m:=hx
 have hy':ρ y= .int k2 n:=hy
 have hz':ρ z= .int k3 p:=hz
 rw [pk_eq,pk_eq] at e6
 refine ⟨_,.int k _,e6.symm,rfl,fun w=> ?_⟩
 cases mx with
 |true=>
  simp only [if_true] at hc
  simp [execOp,ho,resolve,hc,ha,hx',hy',hz',invoke,builtin,Builtin.max_,Builtin.max2]
 |false=>
  simp only [Bool.false_eq_true,if_false] at hc
  simp [execOp,ho,resolve,hc,ha,hx',hy',hz',invoke,builtin,Builtin.min_,Builtin.min2]
theorem nk_ptr {a:AV} {v:Value} (hv:vr φ a v) (hk:nkA a=1):∃p,v= .pointer p∧isNilA a=p.isNone:=by
 cases a with
 |pt b q=>obtain ⟨l,_,e⟩:=hv;exact ⟨_,e,rfl⟩
 |gp g q=>exact ⟨_,hv,rfl⟩
 |pn=>exact ⟨_,hv,rfl⟩
 |_=>cases hk
theorem nk_sl {a:AV} {v:Value} (hv:vr φ a v) (hk:nkA a=2):∃p n c,v= .slice p n c∧isNilA a=p.isNone:=by
 cases a with
 |sl b q n c=>obtain ⟨l,_,e⟩:=hv;exact ⟨_,_,_,e,rfl⟩
 |su b q n c=>obtain ⟨l,c,_,_,_,_,e⟩:=hv;exact ⟨_,_,_,e,rfl⟩
 |sn=>exact ⟨_,_,_,hv,rfl⟩
 |se=>obtain ⟨l,c,e⟩:=hv;exact ⟨_,_,_,e,rfl⟩
 |_=>cases hk
theorem nk_mp {a:AV} {v:Value} (hv:vr φ a v) (hk:nkA a=3):∃p,v= .map p∧isNilA a=p.isNone:=by
 cases a with
 |mp r=>obtain ⟨l,_,e⟩:=hv;exact ⟨_,e,rfl⟩
 |mn=>exact ⟨_,hv,rfl⟩
 |_=>cases hk
theorem nk_fn {a:AV} {v:Value} (hv:vr φ a v) (hk:nkA a=4):(isNilA a=true∧v= .nilFunc)∨(isNilA a=false∧∃f x y,v= .func f x y):=by
 cases a with
 |fn f x y=>obtain ⟨_,_,e,_⟩:=hv;exact .inr ⟨rfl,_,_,_,e⟩
 |yl r=>obtain ⟨_,_,e⟩:=hv;exact .inr ⟨rfl,_,_,_,e⟩
 |fz=>exact .inl ⟨rfl,hv⟩
 |_=>cases hk
theorem nk_fc {a:AV} {v:Value} (hv:vr φ a v) (hk:nkA a=5):(isNilA a=true∧v= .nilIface)∨(isNilA a=false∧∃u x,v= .iface u x):=by
 cases a with
 |fc u x=>obtain ⟨_,e,_⟩:=hv;exact .inr ⟨rfl,_,_,e⟩
 |fcn=>exact .inl ⟨rfl,hv⟩
 |_=>cases hk
theorem eq_run {op:BinOp} {ng:Bool} {x y:Operand} {xt yt:TypeId} {b:Bool} (hop:op=if ng then .neq else .eql) (ho:o.op= .binOp op xt x y yt) (hg:∀w,(eqGuard op xt x y (ρ x) (ρ y)).run G w= .ok () w)
    (hq:∀w,(Op.equal xt (ρ x) (ρ y)).run G w= .ok b w) (hb1:binOp .eql xt (ρ x) (ρ y)=(do pure (.bool (←Op.equal xt (ρ x) (ρ y))):Sem Value)) (hb2:binOp .neq xt (ρ x) (ρ y)=(do pure (.bool (!(←Op.equal xt (ρ x) (ρ y)))):Sem Value)):
    ∀w,(execOp ρ o).run G w= .ok (.value (.bool (if ng then !b else b))) w:=by
 intro w
 cases ng<;>simp only [Bool.false_eq_true,if_false,if_true] at hop<;>subst hop<;>simp [execOp,ho,hg,hb1,hb2,hq]
theorem beqb_eq (ng b:Bool):beqb ng (bNot b)=if ng then !b else b:=by cases ng<;>cases b<;>rfl
theorem equal_any:∃d,∀(t:TypeId) (x y:Value),Op.equal t x y=Op.equalIn (d+1) t x y:=⟨9999,fun _ _ _=>rfl⟩
theorem p_ee {ng:Bool} {op:BinOp} {cl:Nat} {x y:Operand} {xt yt:TypeId} (hx:OD φ t ρ x) (hy:OD φ t ρ y) (hop:op=if ng then .neq else .eql) (hc:eqC G xt (isCn x||isCn y)=some cl) (ho:o.op= .binOp op xt x y yt) (hok:(evX (.ee cl ng (cOd x) (cOd y)) t h).ok):
    Pu G φ o ρ h (evX (.ee cl ng (cOd x) (cOd y)) t h):=by
 obtain ⟨d,equal_step⟩:=equal_any
 have e0:evX (.ee cl ng (cOd x) (cOd y)) t h=eeA cl ng (evO (cOd x) t) (evO (cOd y) t) h:=rfl
 rw [e0] at hok ⊢
 have hx':vr φ (evO (cOd x) t) (ρ x):=hx
 have hy':vr φ (evO (cOd y) t) (ρ y):=hy
 have hop2:op= .eql∨op= .neq:=by cases ng<;>simp only [Bool.false_eq_true,if_false,if_true] at hop<;>simp [hop]
 generalize evO (cOd x) t=a at hx' hok
 generalize evO (cOd y) t=b at hy' hok
 by_cases h0:cl=0
 ·subst h0
  have e1:eeA 0 ng a b h=bR (bB (isBoA a) (isBoA b) false) (rB (beqb ng (bNot (beqV a b))) h) (.bad 67):=rfl
  rw [e1] at hok ⊢
  rw [bR_eq] at hok ⊢
  split at hok
  case isFalse=>exact False.elim hok
  rename_i hb
  rw [if_pos hb,rB_eq,beqb_eq]
  cases a<;>first|cases hb|skip
  cases b<;>first|cases hb|skip
  rename_i p q
  have e2:ρ x= .bool p:=hx'
  have e3:ρ y= .bool q:=hy'
  have hu:G.underlying xt=some .bool:=by
   unfold eqC at hc
   split at hc<;>first|assumption|(cases hc;done)|(split at hc<;>cases hc)
  have hbq:beqV (.bo p) (.bo q)=(p==q):=by cases p<;>cases q<;>rfl
  refine ⟨_,_,rfl,rfl,?_⟩
  rw [hbq]
  refine eq_run (b:=p==q) hop ho (fun w=> ?_) (fun w=> ?_) ?_ ?_
  ·rw [e2,e3];rcases hop2 with rfl|rfl<;>simp [eqGuard]
  ·rw [e2,e3,equal_step];simp [Op.equalIn,run_underlying hu]
  ·rw [e2,e3];rfl
  rw [e2,e3];rfl
 have hle : cl ≤ 5 := by
  unfold eqC at hc
  split at hc<;>first|(cases hc;done)|(cases hc;omega)|(split at hc<;>first|(cases hc;done)|(cases hc;omega))
 have e1:eeA cl ng a b h=bR (bB (Nat.beq (nkA a) cl) (bB (Nat.beq (nkA b) cl) (bB (isNilA a) true (isNilA b)) false) false) (rB (beqb ng (bNot (bB (isNilA a) (isNilA b) false))) h) (.bad 68):=by
  have:Nat.beq cl 0=false:=by cases cl with|zero=>exact absurd rfl h0|succ n=>rfl
  unfold eeA
  rw [this,Nat.ble_eq_true_of_le hle];rfl
 rw [e1] at hok ⊢
 rw [bR_eq] at hok ⊢
 split at hok
 case isFalse=>exact False.elim hok
 rename_i hb
 rw [if_pos hb,rB_eq,beqb_eq]
 rw [bB_eq,bB_eq,bB_eq] at hb
 split at hb
 case isFalse=>cases hb
 rename_i k1
 split at hb
 case isFalse=>cases hb
 rename_i k2
 have n1:nkA a=cl:=Nat.eq_of_beq_eq_true k1
 have n2:nkA b=cl:=Nat.eq_of_beq_eq_true k2
 refine ⟨_,_,rfl,rfl,?_⟩
 rw [bB_eq]
 have cases5:cl=1∨cl=2∨cl=3∨cl=4∨cl=5:=by omega
 rcases cases5 with rfl|rfl|rfl|rfl|rfl
 ·have hu : ∃ q, G.underlying xt = some (.pointer q) := by
    unfold eqC at hc
    split at hc<;>first|exact ⟨_,by assumption⟩|(cases hc;done)|(split at hc<;>cases hc)
  obtain ⟨q,hu⟩:=hu
  obtain ⟨p1,e2,i1⟩:=nk_ptr hx' n1
  obtain ⟨p2,e3,i2⟩:=nk_ptr hy' n2
  rw [i1,i2] at hb ⊢
  refine eq_run (b:=if p1.isNone=true then p2.isNone else false) hop ho (fun w=> ?_) (fun w=> ?_) ?_ ?_
  ·rw [e2,e3];rcases hop2 with rfl|rfl<;>simp [eqGuard]
  ·rw [e2,e3,equal_step];cases p1<;>cases p2<;>simp [Op.equalIn,run_underlying hu] at hb ⊢
  ·rw [e2,e3];rfl
  rw [e2,e3];rfl
 ·have hu : ∃ q, G.underlying xt = some (.slice q) := by
    unfold eqC at hc
    split at hc<;>first|exact ⟨_,by assumption⟩|(cases hc;done)|(split at hc<;>cases hc)
  obtain ⟨q,hu⟩:=hu
  obtain ⟨p1,n1',c1',e2,i1⟩:=nk_sl hx' n1
  obtain ⟨p2,n2',c2',e3,i2⟩:=nk_sl hy' n2
  rw [i1,i2] at hb ⊢
  refine eq_run (b:=if p1.isNone=true then p2.isNone else false) hop ho (fun w=> ?_) (fun w=> ?_) ?_ ?_
  ·rw [e2,e3];rcases hop2 with rfl|rfl<;>simp [eqGuard]
  ·rw [e2,e3,equal_step];cases p1<;>cases p2<;>simp [Op.equalIn,run_underlying hu] at hb ⊢
  ·rw [e2,e3];rfl
  rw [e2,e3];rfl
 ·have hu : ∃ q r, G.underlying xt = some (.map q r) := by
    unfold eqC at hc
    split at hc<;>first|exact ⟨_,_,by assumption⟩|(cases hc;done)|(split at hc<;>cases hc)
  obtain ⟨q,r,hu⟩:=hu
  obtain ⟨p1,e2,i1⟩:=nk_mp hx' n1
  obtain ⟨p2,e3,i2⟩:=nk_mp hy' n2
  rw [i1,i2] at hb ⊢
  refine eq_run (b:=if p1.isNone=true then p2.isNone else false) hop ho (fun w=> ?_) (fun w=> ?_) ?_ ?_
  ·rw [e2,e3];rcases hop2 with rfl|rfl<;>simp [eqGuard]
  ·rw [e2,e3,equal_step];cases p1<;>cases p2<;>simp [Op.equalIn,run_underlying hu] at hb ⊢
  ·rw [e2,e3];rfl
  rw [e2,e3];rfl
 ·have hu : ∃ q r s, G.underlying xt = some (.func q r s) := by
    unfold eqC at hc
    split at hc<;>first|exact ⟨_,_,_,by assumption⟩|(cases hc;done)|(split at hc<;>cases hc)
  obtain ⟨q,r,s,hu⟩:=hu
  rcases nk_fn hx' n1 with ⟨i1,e2⟩|⟨i1,_,_,_,e2⟩<;>rcases nk_fn hy' n2 with ⟨i2,e3⟩|⟨i2,_,_,_,e3⟩<;>rw [i1,i2] at hb ⊢<;>first|(cases hb;done)|skip
  all_goals
   refine eq_run hop ho (fun w=> ?_) (fun w=> ?_) ?_ ?_
   ·rw [e2,e3];rcases hop2 with rfl|rfl<;>simp [eqGuard]
   ·rw [e2,e3,equal_step];simp [Op.equalIn,run_underlying hu]
   ·rw [e2,e3];rfl
   rw [e2,e3];rfl
 have hu : (∃ q, G.underlying xt = some (.interface q)) ∧ (isCn x || isCn y) = true := by
  unfold eqC at hc
  split at hc<;>first|(cases hc;done)|(split at hc<;>first|(exact ⟨⟨_,by assumption⟩,by assumption⟩)|(cases hc))
 obtain ⟨⟨q,hu⟩,hcn⟩:=hu
 rcases nk_fc hx' n1 with ⟨i1,e2⟩|⟨i1,_,_,e2⟩<;>rcases nk_fc hy' n2 with ⟨i2,e3⟩|⟨i2,_,_,e3⟩<;>rw [i1,i2] at hb ⊢<;>first|(cases hb;done)|skip
 all_goals
  refine eq_run hop ho (fun w=> ?_) (fun w=> ?_) ?_ ?_
  ·rw [e2,e3];rcases hop2 with rfl|rfl<;>cases x<;>cases y<;>first|(simp [isCn] at hcn;done)|simp [eqGuard]
  ·rw [e2,e3,equal_step];simp [Op.equalIn,run_underlying hu]
  ·rw [e2,e3];rfl
  rw [e2,e3];rfl
def PartAt (G:Program) (t:TypeId) (X:List Value) (b:Nat) (v:Value):Prop:=match G.underlying t with
 |some (.int _)=>X[b]? =some v
 |_=>∃(xs:Array Value) (n:Nat),v= .agg xs∧xs.toList=(X.drop b).take n∧G.cellsOf t≤n
theorem part_at {t:TypeId} {X:List Value} {b off n:Nat} {xs:Array Value} (hX:xs.toList=(X.drop b).take n) (h1:off+G.cellsOf t≤n) (h2:off+1≤n) (hd:(∃k,G.underlying t=some (.int k))∨((∃fs,G.underlying t=some (.struct fs))∧inT G t=true))
    (hb:(∃k,G.underlying t=some (.int k))→∃v,X[b+off]? =some v):∃v,PartAt G t X (b+off) v∧∀w,(part t xs off).run G w= .ok v w:=by
 rcases hd with ⟨k,hk⟩|⟨⟨fs,hfs⟩,hin⟩
 ·obtain ⟨v,hv⟩:=hb ⟨k,hk⟩
  have hag:∀w,(isAgg t).run G w= .ok false w:=fun w=>by simp [isAgg,run_underlying hk]
  have hx:xs[off]? =some v:=by
   rw [←Array.getElem?_toList,hX,List.getElem?_take,if_pos (by omega),List.getElem?_drop];exact hv
  exact ⟨v,by unfold PartAt;rw [hk];exact hv,fun w=>by simp [part,hag,hx]⟩
 have hag:∀w,(isAgg t).run G w= .ok true w:=fun w=>by simp [isAgg,run_underlying hfs]
 refine ⟨.agg (xs.extract off (off+G.cellsOf t)),?_,fun w=>by simp [part,hag,run_sizeOf' hin]⟩
 unfold PartAt;rw [hfs]
 refine ⟨_,G.cellsOf t,rfl,?_,Nat.le_refl _⟩
 rw [Array.toList_extract,List.extract_eq_take_drop,Nat.add_sub_cancel_left,hX,List.drop_take,List.take_take,List.drop_drop,Nat.min_eq_left (by omega)]
theorem eg_step {o:Nat} {os:List Nat} {l m:AV} {X Y:List Value} {K:Bool→R} {r:R} (hl:lr φ l X) (hm:lr φ m Y) (h:egL (o::os) l m K=r) (hok:r.ok):
    ∃k n p,X[o]? =some (.int k n)∧Y[o]? =some (.int k p)∧((n=p∧egL os l m K=r)∨(n≠p∧K false=r)):=by
 obtain ⟨a,v,e1,e2,e3⟩:=lr_nth hl (show (nthA l o fun a=>nthA m o fun c=>onI a fun k n=>onI c fun j p=>bR (beqK k j) (bR (iEq n p) (egL os l m K) (K false)) (.bad 59))=r from h) hok
 obtain ⟨c,u,e4,e5,e6⟩:=lr_nth hm e3 hok
 obtain ⟨k,n,rfl,e7⟩:=onI_ok e6 hok
 obtain ⟨j,p,rfl,e8⟩:=onI_ok e7 hok
 obtain ⟨e9,e10⟩:=bR_ok e8 hok
 have:=beqK_eq e9
 subst this
 have e2':v=_:=e2
 have e5':u=_:=e5
 subst e2' e5'
 rw [bR_eq,iEq_eq] at e10
 refine ⟨k,n,p,e1,e4,?_⟩
 by_cases hnp:n=p
 ·subst hnp
  rw [if_pos (by simp)] at e10
  exact .inl ⟨rfl,e10⟩
 rw [if_neg (by simp [hnp])] at e10
 exact .inr ⟨hnp,e10⟩
def EgOk (G:Program) (φ:Phi) (D:Nat) (t:TypeId) (b:Nat) (os:List Nat):Prop:=∀(l m:AV) (X Y:List Value) (os':List Nat) (K:Bool→R) (r:R) (v u:Value),lr φ l X→lr φ m Y→PartAt G t X b v→PartAt G t Y b u→egL (os++os') l m K=r→r.ok→
 ∃c:Bool,(∀w,(Op.equalIn D t v u).run G w= .ok c w)∧((c=true∧egL os' l m K=r)∨(c=false∧K false=r))
theorem lv_desc:∀{d:Nat} {t:TypeId} {b:Nat} {os:List Nat},lvT G d t b=some os→(∃k,G.underlying t=some (.int k))∨((∃fs,G.underlying t=some (.struct fs))∧inT G t=true)
 |0,_,_,_,h=>by cases h
 |d+1,t,b,os,h=>by
  unfold lvT at h
  split at h
  ·rename_i k hu;exact .inl ⟨k,hu⟩
  ·rename_i fs hu
   split at h
   ·cases h
   rename_i hc
   simp only [Bool.or_eq_true,not_or,Bool.not_eq_true',Bool.not_eq_false] at hc
   exact .inr ⟨⟨fs,hu⟩,hc.2⟩
  cases h
theorem lv_int:∀{d:Nat} {t:TypeId} {b:Nat} {os:List Nat} {k:IntKind},lvT G d t b=some os→G.underlying t=some (.int k)→os=[b]
 |0,_,_,_,_,h,_=>by cases h
 |d+1,t,b,os,k,h,hk=>by
  unfold lvT at h
  rw [hk] at h
  cases h;rfl
theorem lvF_ok {D:Nat} {f:TypeId→Nat→Option (List Nat)} {b n:Nat} (hf:∀t b os,f t b=some os→EgOk G φ D t b os) (hdesc:∀t b os,f t b=some os→((∃k,G.underlying t=some (.int k))∨((∃fs,G.underlying t=some (.struct fs))∧inT G t=true))∧∀k,G.underlying t=some (.int k)→os=[b]):
    ∀{fs:List Field} {os:List Nat},lvF G f b n fs=some os→∀{l m:AV} {X Y:List Value} {os':List Nat} {K:Bool→R} {r:R} {xs ys:Array Value} {n1 n2:Nat},lr φ l X→lr φ m Y→xs.toList=(X.drop b).take n1→ys.toList=(Y.drop b).take n2→n≤n1→n≤n2→egL (os++os') l m K=r→r.ok→
     ∃c:Bool,(∀w,(Op.eqFields D xs ys fs).run G w= .ok c w)∧((c=true∧egL os' l m K=r)∨(c=false∧K false=r))
 |[],os,h,l,m,X,Y,os',K,r,xs,ys,n1,n2,hl,hm,hX,hY,hn1,hn2,hr,hok=>by
  cases h
  exact ⟨true,fun w=>by simp [Op.eqFields],.inl ⟨rfl,hr⟩⟩
 |x::fs,os,h,l,m,X,Y,os',K,r,xs,ys,n1,n2,hl,hm,hX,hY,hn1,hn2,hr,hok=>by
  unfold lvF at h
  split at h
  ·cases h
  rename_i hc
  simp only [Bool.or_eq_true,not_or,Bool.not_eq_true',Bool.not_eq_false,Bool.and_eq_true] at hc
  obtain ⟨hname,hsz1,hsz2⟩:=hc
  split at h
  ·rename_i p q hp hq
   cases h
   obtain ⟨hd1,hd2⟩:=hdesc _ _ _ hp
   rw [List.append_assoc] at hr
   have hbX:(∃k,G.underlying x.type=some (.int k))→(∃v,X[b+x.offset]? =some v)∧∃v,Y[b+x.offset]? =some v:=fun ⟨k,hk⟩=>by
    have hos:=hd2 k hk
    subst hos
    obtain ⟨_,_,_,g1,g2,_⟩:=eg_step hl hm (show egL ((b+x.offset)::(q++os')) l m K=r from hr) hok
    exact ⟨⟨_,g1⟩,_,g2⟩
   obtain ⟨v,pv,rv⟩:=part_at hX (Nat.le_trans (Nat.le_of_ble_eq_true hsz1) hn1) (Nat.le_trans (Nat.le_of_ble_eq_true hsz2) hn1) hd1 (fun hk=>(hbX hk).1)
   obtain ⟨u,pu,ru⟩:=part_at hY (Nat.le_trans (Nat.le_of_ble_eq_true hsz1) hn2) (Nat.le_trans (Nat.le_of_ble_eq_true hsz2) hn2) hd1 (fun hk=>(hbX hk).2)
   obtain ⟨c,e1,e2⟩:=hf _ _ _ hp _ _ _ _ _ _ _ _ _ hl hm pv pu hr hok
   have hname' : x.name ≠ "_" := by simpa using hname
   rcases e2 with ⟨rfl,e3⟩|⟨rfl,e3⟩
   ·obtain ⟨c2,g1,g2⟩:=lvF_ok hf hdesc hq hl hm hX hY hn1 hn2 e3 hok
    exact ⟨c2,fun w=>by simp [Op.eqFields,hname',rv,ru,e1,g1],g2⟩
   exact ⟨false,fun w=>by simp [Op.eqFields,hname',rv,ru,e1],.inr ⟨rfl,e3⟩⟩
  cases h
theorem lv_ok:∀(d D:Nat) {t:TypeId} {b:Nat} {os:List Nat},d≤D→lvT G d t b=some os→EgOk G φ D t b os
 |0,_,_,_,_,_,h=>by cases h
 |d+1,0,_,_,_,hle,_=>by omega
 |d+1,D+1,t,b,os,hle,h=>fun l m X Y os' K r v u hl hm pv pu hr hok=>by
  have h0:=h
  unfold lvT at h
  split at h
  ·rename_i k hu
   cases h
   unfold PartAt at pv pu
   rw [hu] at pv pu
   obtain ⟨k2,n,p,g1,g2,g3⟩:=eg_step hl hm (show egL (b::os') l m K=r from hr) hok
   obtain rfl:v= .int k2 n:=Option.some.inj (pv.symm.trans g1)
   obtain rfl:u= .int k2 p:=Option.some.inj (pu.symm.trans g2)
   refine ⟨n==p,fun w=>by simp [Op.equalIn,run_underlying hu],?_⟩
   rcases g3 with ⟨rfl,g4⟩|⟨g4,g5⟩
   ·exact .inl ⟨by simp,g4⟩
   exact .inr ⟨beq_eq_false_iff_ne.2 g4,g5⟩
  ·rename_i fs hu
   split at h
   ·cases h
   rename_i hc
   simp only [Bool.or_eq_true,not_or,Bool.not_eq_true',Bool.not_eq_false,Bool.not_eq_true] at hc
   unfold PartAt at pv pu
   rw [hu] at pv pu
   obtain ⟨xs,n1,rfl,hX,hn1⟩:=pv
   obtain ⟨ys,n2,rfl,hY,hn2⟩:=pu
   have hfo:G.fieldsOf t=fs:=by simp [Program.fieldsOf,hu]
   have heq:∀w,(Op.equalIn (D+1) t (.agg xs) (.agg ys)).run G w=(Op.eqFields D xs ys fs.toList).run G w:=fun w=>by
    rw [run_equalIn_struct w D t xs ys (by rw [hfo];exact hu) hc.1,hfo]
   obtain ⟨c,g1,g2⟩:=lvF_ok (D:=D) (fun t b os hh=>lv_ok d D (by omega) hh) (fun t b os hh=>⟨lv_desc hh,fun k hk=>lv_int hh hk⟩) h hl hm hX hY hn1 hn2 hr hok
   exact ⟨c,fun w=>(heq w).trans (g1 w),g2⟩
  cases h
theorem p_eg {ng:Bool} {op:BinOp} {os:List Nat} {x y:Operand} {xt yt:TypeId} (hx:OD φ t ρ x) (hy:OD φ t ρ y) (hop:op=if ng then .neq else .eql) (hc:egT G xt=some os) (ho:o.op= .binOp op xt x y yt) (hok:(evX (.eg ng os (cOd x) (cOd y)) t h).ok):
    Pu G φ o ρ h (evX (.eg ng os (cOd x) (cOd y)) t h):=by
 obtain ⟨l,e1,e2⟩:=onA_ok (show (onA (evO (cOd x) t) fun l=>onA (evO (cOd y) t) fun m=>egL os l m fun b=>rB (beqb ng (bNot b)) h)=evX (.eg ng os (cOd x) (cOd y)) t h from rfl) hok
 obtain ⟨m,e3,e4⟩:=onA_ok e2 hok
 rw [OD,e1] at hx
 rw [OD,e3] at hy
 obtain ⟨X,hx',hX,_⟩:=hx
 obtain ⟨Y,hy',hY,_⟩:=hy
 unfold egT at hc
 split at hc
 case h_2=>cases hc
 rename_i fs hu
 split at hc
 ·cases hc
 rename_i hgd
 have hgd':G.eqGuardType G.depth xt=false:=by simpa using hgd
 obtain ⟨d,hd⟩:∃d,∀(t:TypeId) (x y:Value),Op.equal t x y=Op.equalIn (d+4) t x y:=⟨9996,fun _ _ _=>rfl⟩
 have hpa:∀Z:Array Value,PartAt G xt Z.toList 0 (.agg Z):=fun Z=>by
  unfold PartAt;rw [hu]
  exact ⟨Z,max Z.size (G.cellsOf xt),rfl,by rw [List.drop_zero,List.take_of_length_le (by simp;omega)],Nat.le_max_right _ _⟩
 obtain ⟨c,g1,g2⟩:=lv_ok (φ:=φ) 4 (d+4) (by omega) hc _ _ _ _ [] _ _ _ _ hX hY (hpa X) (hpa Y) (by simpa using e4) hok
 have hop2:op= .eql∨op= .neq:=by cases ng<;>simp only [Bool.false_eq_true,if_false,if_true] at hop<;>simp [hop]
 have hres:evX (.eg ng os (cOd x) (cOd y)) t h= .v (.bo (if ng then !c else c)) h:=by
  rcases g2 with ⟨rfl,g3⟩|⟨rfl,g3⟩
  ·rw [←g3];show rB (beqb ng (bNot true)) h=_;rw [rB_eq,beqb_eq]
  rw [←g3];show rB (beqb ng (bNot false)) h=_;rw [rB_eq,beqb_eq]
 refine ⟨_,_,hres,rfl,?_⟩
 refine eq_run (b:=c) hop ho (fun w=> ?_) (fun w=> ?_) ?_ ?_
 ·rw [hx',hy'];rcases hop2 with rfl|rfl<;>simp [eqGuard,hgd']
 ·rw [hx',hy',hd];exact g1 w
 ·rw [hx',hy'];rfl
 rw [hx',hy'];rfl
end
end Go.Ev
namespace Go.Ev
open Classical
section
variable {G:Program} {φ:Phi} {e:TE} {nx:P} {w:World} {t:TV} {ρ:Operand→Value} {o:Oper}
def Rd (G:Program) (φ:Phi) (e:TE) (nx:P) (w:World) (o:Oper) (ρ:Operand→Value) (r:R):Prop:=∃a v,r= .v a (.mk e nx)∧vr φ a v∧(execOp ρ o).run G w= .ok (.value v) w
theorem Pu.rd {r:R} (h:Pu G φ o ρ (.mk e nx) r):Rd G φ e nx w o ρ r:=by obtain ⟨a,v,h1,h2,h3⟩:=h;exact ⟨a,v,h1,h2,h3 w⟩
theorem r_ld {ty:TypeId} {x:Operand} (h:Rel φ e nx w) (hx:OD φ t ρ x) (hu:udT G ty=true) (ho:o.op= .load ty x) (hok:(evX (.ld (ldT G ty) (cOd x)) t (.mk e nx)).ok):Rd G φ e nx w o ρ (evX (.ld (ldT G ty) (cOd x)) t (.mk e nx)):=by
 obtain ⟨b,q,e1,e2⟩:=onP_ok (show (onP (evO (cOd x) t) fun b o=>rdK b (.mk e nx) fun n c=>ldC (ldT G ty) n c o fun v=>fV v fun v=> .v v (.mk e nx))=evX (.ld (ldT G ty) (cOd x)) t (.mk e nx) from rfl) hok
 rw [OD,e1] at hx
 obtain ⟨l,hl,hx'⟩:=hx
 obtain ⟨n,c,vs,a1,a2,a3,a4,a5,a6,e3⟩:=rd_ok h rfl hl e2 hok
 obtain ⟨a,v,b1,b2,b3⟩:=load_ok hu a2 a3 a1 a4 e3 hok
 exact ⟨a,v,b1.symm,b2,by simp [execOp,ho,hx',Instr.loadAt,Instr.sureAddr,b3]⟩
theorem str_ok:∀{y:AV} {vs:List Value} {K:List Nat→R} {r:R},lr φ y vs→strA y K=r→r.ok→∃ns:List Nat,Sm ns∧vs=ns.map (fun (n:Nat)=>Value.int .u8 (n:Int))∧K ns=r:=by
 intro y
 induction y with
 |ln=>intro vs K r h hr _;rw [lr_ln h];exact ⟨[],fun x hx=>(by cases hx),rfl,hr⟩
 |lc a u _ ih=>
  intro vs K r h hr ho
  obtain ⟨v,m,rfl,h1,h2⟩:=lr_lc h
  obtain ⟨k,n,rfl,e2⟩:=onI_ok (show (onI a fun k n=>bR (beqK k .u8) (onNt0 n fun m=>strA u fun s=>K (m::s)) (.bad 64))=r from hr) ho
  obtain ⟨e3,e4⟩:=bR_ok e2 ho
  have hk:=beqK_eq e3
  subst hk
  have h1':v=_:=h1
  subst h1'
  cases n with
  |negSucc n=>rw [←e4] at ho;exact False.elim ho
  |ofNat n=>
   obtain ⟨e5,e6⟩:=bR_ok (show bR (Nat.ble n 255) (strA u fun s=>K (n::s)) (.bad 64)=r from e4) ho
   obtain ⟨ns,f1,rfl,f3⟩:=ih h2 e6 ho
   refine ⟨n::ns,fun x hx=> ?_,rfl,f3⟩
   rcases List.mem_cons.1 hx with rfl|hx
   ·have:=Nat.le_of_ble_eq_true e5;omega
   exact f1 x hx
 |_=>intro vs K r h;exact False.elim h
theorem push_bytes:∀(ns:List Nat) (s:List Nat),(ns.map (fun n:Nat=>(n:Int))).foldl (fun (r:ByteArray) n=>r.push (UInt8.ofNat n.toNat)) (bytesOf s)=bytesOf (s++ns)
 |[],s=>by simp
 |n::ns,s=>by
  have:(bytesOf s).push (UInt8.ofNat n)=bytesOf (s++[n]):=by
   apply bytes_ext;rw [data_bytesOf]
   show ((bytesOf s).data.push (UInt8.ofNat n)).toList=_
   rw [Array.toList_push,data_bytesOf];simp
  simp only [List.map_cons,List.foldl_cons,Int.toNat_natCast]
  rw [this,push_bytes ns (s++[n])];simp
theorem r_cs {src dst el:TypeId} {x:Operand} (h:Rel φ e nx w) (hx:OD φ t ρ x) (h1:G.underlying src=some (.slice el)) (h2:G.underlying el=some (.int .u8)) (h3:G.underlying dst=some .string) (ho:o.op= .convert src dst x) (hok:(evX (.cs (cOd x)) t (.mk e nx)).ok):Rd G φ e nx w o ρ (evX (.cs (cOd x)) t (.mk e nx)):=by
 have e0:(onSl (evO (cOd x) t) (fun b o n=>rdK b (.mk e nx) fun _ c=>takeA (dropA c o) n fun l=>strA l fun s=> .v (.st s) (.mk e nx)) (.v (.st []) (.mk e nx)))=evX (.cs (cOd x)) t (.mk e nx):=rfl
 have hx':vr φ (evO (cOd x) t) (ρ x):=hx
 have hcv:∀a l c,ρ x= .slice a l c→(execOp ρ o).run G w=((Conv.bytesToString (.slice a l c)).run G w).andThen fun a w'=> .ok (.value a) w':=fun a l c hr=>by
  simp only [execOp,ho,hr,Sem.run_bind,run_convert_bytes_string w src dst el a l c h1 h2 h3,Sem.run_pure]
 have key:∀(b:P) (q n:Nat) (l:Loc) (c:Nat),φ b=some l→ρ x= .slice (some ⟨l.B,l.d+q,none⟩) n c→(rdK b (.mk e nx) fun _ c=>takeA (dropA c q) n fun l=>strA l fun s=> .v (.st s) (.mk e nx))=evX (.cs (cOd x)) t (.mk e nx)→Rd G φ e nx w o ρ (evX (.cs (cOd x)) t (.mk e nx)):=fun b q n l c hl hr e1=>by
  obtain ⟨m,cc,vs,a1,a2,a3,a4,a5,a6,e3⟩:=rd_ok h rfl hl e1 hok
  obtain ⟨y,b1,b2,e4⟩:=lr_take (lr_drop q a2) e3 hok
  obtain ⟨ns,f1,f2,f3⟩:=str_ok b1 e4 hok
  have hq:q≤vs.length∨n=0:=by rw [List.length_drop] at b2;omega
  have hlen:((vs.drop q).take n).length=n:=by rw [List.length_take];omega
  have hrg:w.rangeAt l.B (l.d+q) ((vs.drop q).take n):=by
   rcases hq with hq|hq
   ·exact range_take (range_drop a4 hq)
   subst hq;intro j v hj;simp at hj
  have hld:(loadCells ⟨l.B,l.d+q,none⟩ n).run G w= .ok ((ns.map (fun n:Nat=>(n:Int))).map (Value.int .u8)).toArray w:=by
   have:=run_loadCells_list (P:=G) w ⟨l.B,l.d+q,none⟩ ((vs.drop q).take n) (fun j v hv=>by rw [Addr.add_mid];exact hrg j v hv)
   rw [hlen] at this;rw [this,f2];simp [List.map_map]
  have hst:=run_bytesToString (P:=G) w ⟨l.B,l.d+q,none⟩ n c (ns.map (fun n:Nat=>(n:Int))) hld
  have hpb:=push_bytes ns []
  rw [show bytesOf []=ByteArray.empty from rfl] at hpb
  rw [hpb] at hst
  exact ⟨_,.string (bytesOf ns),f3.symm,⟨f1,rfl⟩,by rw [hcv _ _ _ hr,hst];rfl⟩
 rcases onSl_ok e0 hok with ⟨b,q,n,c,e1,e2⟩|⟨b,q,n,z,e1,e2⟩|⟨e1,e2⟩
 ·rw [e1] at hx';obtain ⟨l,hl,hr⟩:=hx';exact key b q n l c hl hr e2
 ·rw [e1] at hx';obtain ⟨l,c,hl,_,_,_,hr⟩:=hx';exact key b q n l c hl hr e2
 have : ∃ a c, ρ x = .slice a 0 c := by
  rcases e1 with e1|e1
  ·rw [e1] at hx';exact ⟨_,_,hx'⟩
  rw [e1] at hx';obtain ⟨a,c,hr⟩:=hx';exact ⟨_,_,hr⟩
 obtain ⟨a,c,hr⟩:=this
 refine ⟨_,.string (bytesOf []),e2.symm,⟨fun x hx=>(by cases hx),rfl⟩,?_⟩
 rw [hcv _ _ _ hr]
 cases a with
 |none=>simp [Conv.bytesToString];rfl
 |some a=>
  have:=run_bytesToString (P:=G) w a 0 c [] (by simp [loadCells,loadCellsFrom])
  rw [this];rfl
theorem r_sc {ty el:TypeId} {x:Operand} {lo hi mx:Option Operand} (h:Rel φ e nx w) (hx:OD φ t ρ x) (hlo:∀y,lo=some y→OD φ t ρ y) (hhi:∀y,hi=some y→OD φ t ρ y) (hmx:∀y,mx=some y→OD φ t ρ y)
    (hu:G.underlying ty=some (.slice el)) (hin:inT G el=true) (hm:okMx hi mx=true)
    (ho:o.op= .slice ty x lo hi mx) (hok:(evX (.sc (G.cellsOf el) (cOd x) (cMo lo) (cMo hi) (cMo mx)) t (.mk e nx)).ok):Rd G φ e nx w o ρ (evX (.sc (G.cellsOf el) (cOd x) (cMo lo) (cMo hi) (cMo mx)) t (.mk e nx)):=by
 have e0:evX (.sc (G.cellsOf el) (cOd x) (cMo lo) (cMo hi) (cMo mx)) t (.mk e nx)=scA (G.cellsOf el) (cMo lo) (cMo hi) (cMo mx) t (.mk e nx) (evO (cOd x) t):=rfl
 rw [e0] at hok ⊢
 have hx':vr φ (evO (cOd x) t) (ρ x):=hx
 generalize evO (cOd x) t=a at hx' hok
 have fin:∀(base:Option Addr) (n c l j m:Nat),ρ x= .slice base n c→(Instr.sliceBounds true n c (lo.map ρ) (hi.map ρ) (mx.map ρ)).run G w= .ok (l,j,m) w→
     (execOp ρ o).run G w= .ok (.value (.slice (if m=l then base else base.map (·.add (l*G.cellsOf el))) (j-l) (m-l))) w:=fun base n c l j m hr hb=>by
  simp [execOp,ho,hr,Instr.sliceAt,Instr.slice,run_underlying hu,hb,run_sizeOf' hin]
 cases a with
 |sl b q n c=>
  obtain ⟨L,hL,hr⟩:=hx'
  have e1:scA (G.cellsOf el) (cMo lo) (cMo hi) (cMo mx) t (.mk e nx) (.sl b q n c)=evN (cMo lo) t 0 fun l=>evN (cMo hi) t n fun j=>evN (cMo mx) t c fun m=>bR (le3 l j m c) (slK b q (G.cellsOf el) l j m (.mk e nx)) (.bad 70):=rfl
  obtain ⟨l,b1,e3⟩:=bv_ok hlo e1.symm hok
  obtain ⟨j,b2,e4⟩:=bv_ok hhi e3 hok
  obtain ⟨m,b3,e5⟩:=bv_ok hmx e4 hok
  obtain ⟨e6,e7⟩:=bR_ok e5 hok
  obtain ⟨f1,f2,f3⟩:=le3_ok e6
  obtain ⟨a,g1,g2⟩:=slK_ok (h:= .mk e nx) (q:=q) (z:=G.cellsOf el) (l:=l) (j:=j) (m:=m) hL
  refine ⟨a,_,e7.symm.trans g1,g2,?_⟩
  rw [fin _ n c l j m hr (sb_run hm b1 b2 b3 f1 (fun _=>f2) (fun _=>f3))]
  congr 3;split<;>rfl
 |su b q n y=>
  obtain ⟨L,c,hL,hy0,hnc,hS,hr⟩:=hx'
  have e1:scA (G.cellsOf el) (cMo lo) (cMo hi) (cMo mx) t (.mk e nx) (.su b q n y)=bR (Nat.beq y (G.cellsOf el)) (evN (cMo lo) t 0 fun l=>evN (cMo hi) t n fun j=>onK (gE b e) fun _ _ _ _ ne _=>MO.rec (motive:=fun _=>R) (bR (bB (Nat.ble l j) (Nat.ble (Nat.add q (Nat.mul j (G.cellsOf el))) ne) false) (bR (bB (Nat.beq l 0) true (bB (Nat.ble (Nat.succ l) n) true (Nat.ble (Nat.succ l) j))) (fN (Nat.sub j l) fun k=>fN (Nat.add q (Nat.mul l (G.cellsOf el))) fun o=> .v (.su b o k (G.cellsOf el)) (.mk e nx)) (.v .se (.mk e nx))) (.bad 70)) (fun m=>onI (evO m t) fun _ m=>onNt m fun m=>bR (bB (le3 l j m m) (Nat.ble (Nat.add q (Nat.mul m (G.cellsOf el))) ne) false) (slK b q (G.cellsOf el) l j m (.mk e nx)) (.bad 70)) (cMo mx)) (.bad 70):=rfl
  obtain ⟨e2,e3⟩:=bR_ok e1.symm hok
  have hyz:y=G.cellsOf el:=Nat.eq_of_beq_eq_true e2
  obtain ⟨l,b1,e4⟩:=bv_ok hlo e3 hok
  obtain ⟨j,b2,e5⟩:=bv_ok hhi e4 hok
  obtain ⟨f,g,s,u,ne,cs,hk,e6⟩:=onK_ok e5 hok
  obtain ⟨_,k2,_⟩:=h.blk b L ⟨f,g,s,u,ne,cs⟩ hL hk
  simp only at k2
  have capof:∀i,q+i*G.cellsOf el≤ne→i≤c:=fun i hi=>by
   have:i*G.cellsOf el≤c*G.cellsOf el:=by rw [←hyz] at hi ⊢;omega
   exact Nat.le_of_mul_le_mul_right this (by omega)
  cases mx with
  |none=>
   obtain ⟨e7,e8⟩:=bR_ok (show bR _ _ (.bad 70)=_ from e6) hok
   rw [bB_eq] at e7
   split at e7
   case isFalse=>cases e7
   rename_i hlj
   have hlj':l≤j:=Nat.le_of_ble_eq_true hlj
   have hjc:j≤c:=capof j (Nat.le_of_ble_eq_true e7)
   have hbd:=fin _ n c l j c hr (sb_run (b:=true) hm b1 b2 (.inl ⟨rfl,rfl⟩) hlj' (fun _=>hjc) (fun hh=>absurd rfl hh))
   rw [bR_eq] at e8
   split at e8
   ·rename_i hcond
    rw [fN_eq,fN_eq] at e8
    have hc2:l=0∨c≠l:=by
     rw [bB_eq,bB_eq] at hcond
     split at hcond
     ·rename_i h0;exact .inl (Nat.eq_of_beq_eq_true h0)
     split at hcond
     ·rename_i h1;have:l+1≤n:=Nat.le_of_ble_eq_true h1;right;omega
     have:l+1≤j:=Nat.le_of_ble_eq_true hcond;right;omega
    refine ⟨_,_,e8.symm,⟨L,c-l,hL,by rw [←hyz];exact hy0,?_,?_,rfl⟩,?_⟩
    ·show j-l≤c-l;omega
    ·show L.d+(q+l*G.cellsOf el)+(c-l)*G.cellsOf el=L.S
     have:(c-l)*G.cellsOf el+l*G.cellsOf el=c*G.cellsOf el:=by rw [←Nat.add_mul];congr 1;omega
     rw [hyz] at hS;omega
    rw [hbd]
    congr 3
    rcases hc2 with rfl|hc2
    ·show (if c=0 then some (⟨L.B,L.d+q,none⟩:Addr) else some ((⟨L.B,L.d+q,none⟩:Addr).add (0*G.cellsOf el)))=some ⟨L.B,L.d+(q+0*G.cellsOf el),none⟩
     rw [add_mid];simp
    rw [if_neg hc2]
    show some ((⟨L.B,L.d+q,none⟩:Addr).add (l*G.cellsOf el))=some ⟨L.B,L.d+(q+l*G.cellsOf el),none⟩
    rw [add_mid,Nat.add_assoc]
   rename_i hcond
   have hjl:j-l=0:=by
    rw [bB_eq,bB_eq] at hcond
    split at hcond
    ·exact absurd rfl hcond
    split at hcond
    ·exact absurd rfl hcond
    rcases Nat.lt_or_ge l j with h1|h1
    ·exact absurd (Nat.ble_eq_true_of_le (show l+1≤j from h1)) hcond
    omega
   rw [hjl] at hbd
   refine ⟨_,_,e8.symm,⟨(if c=l then ⟨L.B,L.d+q,none⟩ else (⟨L.B,L.d+q,none⟩:Addr).add (l*G.cellsOf el)),c-l,rfl⟩,?_⟩
   rw [hbd];congr 3;split<;>rfl
  |some my=>
   obtain ⟨k,n1,m1,m2⟩:=onI_ok (show (onI (evO (cOd my) t) _)=_ from e6) hok
   obtain ⟨m,rfl,m3⟩:=onNt_ok m2 hok
   obtain ⟨e7,e8⟩:=bR_ok m3 hok
   rw [bB_eq] at e7
   split at e7
   case isFalse=>cases e7
   rename_i hlj
   obtain ⟨f1,f2,_⟩:=le3_ok hlj
   have hmc:m≤c:=capof m (Nat.le_of_ble_eq_true e7)
   have hmy:=hmx my rfl
   rw [OD,m1] at hmy
   obtain ⟨a,g1,g2⟩:=slK_ok (h:= .mk e nx) (q:=q) (z:=G.cellsOf el) (l:=l) (j:=j) (m:=m) hL
   refine ⟨a,_,e8.symm.trans g1,g2,?_⟩
   rw [fin _ n c l j m hr (sb_run hm b1 b2 (.inr ⟨my,k,rfl,hmy⟩) f1 (fun _=>f2) (fun _=>hmc))]
   congr 3;split<;>rfl
 |sn=>
  have hr:ρ x=_:=hx'
  have e1:scA (G.cellsOf el) (cMo lo) (cMo hi) (cMo mx) t (.mk e nx) .sn=evN (cMo lo) t 0 fun l=>evN (cMo hi) t 0 fun j=>evN (cMo mx) t 0 fun m=>bR (le3 l j m 0) (.v .sn (.mk e nx)) (.bad 70):=rfl
  obtain ⟨l,b1,e3⟩:=bv_ok hlo e1.symm hok
  obtain ⟨j,b2,e4⟩:=bv_ok hhi e3 hok
  obtain ⟨m,b3,e5⟩:=bv_ok hmx e4 hok
  obtain ⟨e6,e7⟩:=bR_ok e5 hok
  obtain ⟨f1,f2,f3⟩:=le3_ok e6
  refine ⟨.sn,.slice none 0 0,e7.symm,rfl,?_⟩
  rw [fin _ 0 0 l j m hr (sb_run hm b1 b2 b3 f1 (fun _=>f2) (fun _=>f3)),show m=0 by omega,show j=0 by omega,show l=0 by omega]
  simp
 |se=>
  obtain ⟨ad,c,hr⟩:=hx'
  have e1:scA (G.cellsOf el) (cMo lo) (cMo hi) (cMo mx) t (.mk e nx) .se=evN (cMo lo) t 0 fun l=>evN (cMo hi) t 0 fun j=>MO.rec (motive:=fun _=>R) (bR (le3 l j 0 0) (.v .se (.mk e nx)) (.bad 70)) (fun _=> .bad 70) (cMo mx):=rfl
  obtain ⟨l,b1,e3⟩:=bv_ok hlo e1.symm hok
  obtain ⟨j,b2,e4⟩:=bv_ok hhi e3 hok
  cases mx with
  |some y=>rw [←e4] at hok;exact False.elim hok
  |none=>
   obtain ⟨e6,e7⟩:=bR_ok e4 hok
   obtain ⟨f1,f2,f3⟩:=le3_ok e6
   have hb:=fin _ 0 c l j c hr (sb_run (b:=true) hm b1 b2 (.inl ⟨rfl,rfl⟩) f1 (fun _=>by omega) (fun hh=>absurd rfl hh))
   have hl:l=0:=by omega
   have hj:j=0:=by omega
   subst hl hj
   refine ⟨.se,_,e7.symm,⟨(if c=0 then ad else ad.add (0*G.cellsOf el)),c,rfl⟩,?_⟩
   rw [hb];congr 3;split<;>rfl
 |_=>exact False.elim hok
end
end Go.Ev
namespace Go.Ev
open Classical
section
variable {G:Program} {φ:Phi} {e:TE} {nx:P} {w:World} {t:TV} {ρ:Operand→Value} {o:Oper}
inductive KV (φ:Phi):KD→AV→Value→TypeDesc→Prop where
 |i (k:IntKind) (j:IntKind) (n:Int):KV φ .i (.it k n) (.int k n) (.int j)
 |s (s:List Nat) (h:Sm s):KV φ .s (.st s) (.string (bytesOf s)) .string
theorem bytesOf_beq {s r:List Nat} (hs:Sm s) (hr:Sm r):(bytesOf s==bytesOf r)=beqS s r:=by
 have e0:(bytesOf s==bytesOf r)=((bytesOf s).data==(bytesOf r).data):=rfl
 rw [e0,←beqS_map hs hr]
 simp [bytesOf]
theorem kq_ok {kd:KD} {k x:AV} {kv xv:Value} {d:TypeDesc} {K:Bool→R} {r:R} (hx:KV φ kd x xv d) (hk:vr φ k kv) (h:keyQ k x K=r) (hok:r.ok):∃b,Instr.sameNow d xv kv=some b∧(b=true→KV φ kd k kv d∧k=x∧kv=xv)∧K b=r:=by
 cases hx with
 |i i j n=>
  cases k with
  |it i2 n2=>
   have hk':kv=_:=hk
   subst hk'
   obtain ⟨e1,e2⟩:=bR_ok (show bR (beqK i2 i) (bR (iEq n2 n) (K true) (K false)) (.bad 47)=r from h) hok
   have:=beqK_eq e1
   subst this
   rw [bR_eq,iEq_eq] at e2
   refine ⟨n2==n,?_,?_,?_⟩
   ·have : (n == n2) = (n2 == n) := by
      by_cases hh:n=n2
      ·subst hh;rfl
      rw [beq_eq_false_iff_ne.2 hh,beq_eq_false_iff_ne.2 (Ne.symm hh)]
    simp [Instr.sameNow,this]
   ·intro hb
    have:=eq_of_beq hb
    subst this
    exact ⟨.i _ _ _,rfl,rfl⟩
   rw [←e2];cases n2==n<;>rfl
  |st s=>
   have h':(onS (.it i n) fun r=>bR (beqS s r) (K true) (K false))=r:=h
   obtain ⟨_,hh,_⟩:=onS_ok h' hok
   cases hh
  |_=>subst h;exact False.elim hok
 |s s hs=>
  cases k with
  |it i2 n2=>
   have h':(onI (.st s) fun j m=>bR (beqK i2 j) (bR (iEq n2 m) (K true) (K false)) (.bad 47))=r:=h
   obtain ⟨_,_,hh,_⟩:=onI_ok h' hok
   cases hh
  |st s2=>
   obtain ⟨hs2,hk'⟩:=hk
   subst hk'
   have e2:bR (beqS s2 s) (K true) (K false)=r:=h
   rw [bR_eq] at e2
   refine ⟨beqS s2 s,?_,?_,?_⟩
   ·have : beqS s s2 = beqS s2 s := by
      cases h1:beqS s s2<;>cases h2:beqS s2 s<;>first|rfl|skip
      ·rw [beqS_eq.1 h2,beqS_eq.2 rfl] at h1;cases h1
      rw [beqS_eq.1 h1,beqS_eq.2 rfl] at h2;cases h2
    simp [Instr.sameNow,bytesOf_beq hs hs2,this]
   ·intro hb
    have:=beqS_eq.1 hb
    subst this
    exact ⟨.s _ hs2,rfl,rfl⟩
   rw [←e2];cases beqS s2 s<;>rfl
  |_=>subst h;exact False.elim hok
theorem find_ok {kd:KD} {x:AV} {xv:Value} {d:TypeDesc} (hx:KV φ kd x xv d):∀{es:ML} {E:List MapEntry} {K:AV→R} {N r:R} (i:Nat),mr φ es E→findM es x K N=r→r.ok→
    (∃a v j,Instr.findNow d xv E i=some (some (j,v))∧vr φ a v∧K a=r)∨(Instr.findNow d xv E i=some none∧N=r):=by
 intro es
 induction es with
 |z=>intro E K N r i hm h _;obtain rfl:E=[]:=hm;exact .inr ⟨rfl,h⟩
 |c k v b u ih=>
  intro E K N r i hm h hok
  obtain ⟨en,l,rfl,h1,h2,_,h4⟩:=hm
  obtain ⟨q,e1,_,e2⟩:=kq_ok hx h1 (show (keyQ k x fun b=>bR b (K v) (findM u x K N))=r from h) hok
  cases q with
  |true=>exact .inl ⟨v,en.val,i,by simp [Instr.findNow,e1],h2,e2⟩
  |false=>
   rcases ih (i+1) h4 (show findM u x K N=r from e2) hok with ⟨a,w,j,f1,f2,f3⟩|⟨f1,f2⟩
   ·exact .inl ⟨a,w,j,by simp [Instr.findNow,e1,f1],f2,f3⟩
   exact .inr ⟨by simp [Instr.findNow,e1,f1],f2⟩
theorem kv_check {kd:KD} {x:AV} {xv:Value} {d:TypeDesc} {j:TypeId} (hx:KV φ kd x xv d) (hu:G.underlying j=some d) (b:Bool) (n:Nat):(Instr.checkKey b (n+1) j xv).run G w= .ok () w:=by
 cases hx<;>simp [Instr.checkKey,run_underlying hu]
theorem mk_ok (h:Rel φ e nx w) {m:Operand} {K:ML→Nat→R} {r:R} (hm:OD φ t ρ m) (hr:mapK (evO (cOd m) t) (.mk e nx) K=r) (hok:r.ok):
    (∃es ck E l,ρ m= .map (some l)∧w.heap[l]? =some (.map E ck)∧mr φ es E.toList∧K es ck=r)∨(ρ m= .map none∧K .z 0=r):=by
 have hm':vr φ (evO (cOd m) t) (ρ m):=hm
 generalize evO (cOd m) t=a at hm' hr
 cases a with
 |mp p=>
  obtain ⟨l,hl,hv⟩:=hm'
  obtain ⟨es,c,e1,e2⟩:=onMp_ok (show onMp (gE p e) K=r from hr) hok
  obtain ⟨_,E,e3,e4⟩:=h.map p l es c hl e1
  exact .inl ⟨es,c,E,l.B,hv,e3,e4,e2⟩
 |mn=>exact .inr ⟨hm',hr⟩
 |_=>subst hr;exact False.elim hok
theorem r_lm {x:Operand} {ty j el:TypeId} {c:Call} (h:Rel φ e nx w) (hx:OD φ t ρ x) (h1:G.underlying ty=some (.map j el)) (hc:c.callee= .builtin .len) (ha:c.args= #[x]) (ht:c.argTypes= #[ty]) (ho:o.op= .call c) (hok:(evX (.lm (cOd x)) t (.mk e nx)).ok):Rd G φ e nx w o ρ (evX (.lm (cOd x)) t (.mk e nx)):=by
 have lenM_eq:∀{es:ML} {E:List MapEntry},mr φ es E→lenM es=E.length:=by
  intro es
  induction es with
  |z=>intro E hm;obtain rfl:E=[]:=hm;rfl
  |c k v b u ih=>intro E hm;obtain ⟨en,l,rfl,_,_,_,h4⟩:=hm;show Nat.succ (lenM u)=_;rw [ih h4];rfl
 rcases mk_ok h hx (show (mapK (evO (cOd x) t) (.mk e nx) fun es _=>rN (lenM es) (.mk e nx))=evX (.lm (cOd x)) t (.mk e nx) from rfl) hok with ⟨es,ck,E,l,e1,e2,e3,e4⟩|⟨e1,e4⟩
 ·rw [rN_eq,lenM_eq e3] at e4
  exact ⟨_,.int .i64 (E.size:Int),e4.symm,by simp [vr],by simp [execOp,ho,resolve,hc,ha,ht,e1,invoke,builtin,Builtin.len_,run_underlying h1,goInt,getObj,Sem.run,e2]⟩
 rw [rN_eq] at e4
 exact ⟨_,.int .i64 (0:Int),e4.symm,rfl,by simp [execOp,ho,resolve,hc,ha,ht,e1,invoke,builtin,Builtin.len_,run_underlying h1,goInt]⟩
theorem put_ok {kd:KD} {x y:AV} {xv yv:Value} {d:TypeDesc} (hx:KV φ kd x xv d) (hy:vr φ y yv):∀{es:ML} {E:List MapEntry} {c:Nat} {K:ML→Nat→R} {r:R} (i:Nat),mr φ es E→putM es x y c K=r→r.ok→
    (∃j v en es',Instr.findNow d xv E i=some (some (i+j,v))∧E[j]? =some en∧en.key=xv∧mr φ es' (E.modify j fun e=>{e with key:=xv,val:=yv})∧K es' c=r)∨
    (∃es',Instr.findNow d xv E i=some none∧mr φ es' (E++[{key:=xv,val:=yv,born:=c}])∧K es' (c+1)=r):=by
 have hxv:vr φ x xv:=by cases hx with|i _ _ _=>exact rfl|s _ hs=>exact ⟨hs,rfl⟩
 intro es
 induction es with
 |z=>
  intro E c K r i hm h _
  obtain rfl:E=[]:=hm
  refine .inr ⟨.c x y c .z,rfl,⟨_,[],rfl,hxv,hy,rfl,rfl⟩,?_⟩
  have h':(fN (Nat.succ c) fun c2=>K (.c x y c .z) c2)=r:=h
  rw [fN_eq] at h';exact h'
 |c k v b u ih=>
  intro E c K r i hm h hok
  obtain ⟨en,l,rfl,h1,h2,h3,h4⟩:=hm
  obtain ⟨q,e1,e1',e2⟩:=kq_ok hx h1 (show (keyQ k x fun q=>bR q (K (.c x y b u) c) (putM u x y c fun u c=>K (.c k v b u) c))=r from h) hok
  cases q with
  |true=>
   obtain ⟨_,_,e5⟩:=e1' rfl
   exact .inl ⟨0,en.val,en,.c x y b u,by simp [Instr.findNow,e1],rfl,e5,⟨_,l,rfl,hxv,hy,h3,h4⟩,e2⟩
  |false=>
   rcases ih (i+1) h4 (show (putM u x y c fun u c=>K (.c k v b u) c)=r from e2) hok with ⟨j,w,en2,es',f1,f2,f3,f4,f5⟩|⟨es',f1,f2,f3⟩
   ·exact .inl ⟨j+1,w,en2,.c k v b es',by simp [Instr.findNow,e1,f1];omega,by simpa using f2,f3,⟨en,_,rfl,h1,h2,h3,f4⟩,f5⟩
   exact .inr ⟨.c k v b es',by simp [Instr.findNow,e1,f1],⟨en,_,rfl,h1,h2,h3,f2⟩,f3⟩
theorem stays_ok {kd:KD} {x:AV} {xv:Value} {d:TypeDesc} (hx:KV φ kd x xv d):(Instr.keyThatStays xv xv).run G w= .ok xv w:=by
 have:Instr.sameBits 10000 xv xv=true:=by
  have key:∀n,Instr.sameBits n xv xv=true:=fun n=>by
   cases hx with
   |i k j m=>simp [Instr.sameBits]
   |s s hs=>simp only [Instr.sameBits];rw [bytesOf_beq hs hs];exact beqS_eq.2 rfl
  exact key 10000
 simp [Instr.keyThatStays,this]
structure KeyP (G:Program) (φ:Phi) (j:TypeId) (x:AV) (xv:Value):Prop where
 val:vr φ x xv
 check:∀(b:Bool) (w:World),(Instr.checkKey b 10000 j xv).run G w= .ok () w
 stays:∀w:World,(Instr.keyThatStays xv xv).run G w= .ok xv w
 find:∀{es:ML} {E:List MapEntry} {K:AV→R} {N r:R},mr φ es E→findM es x K N=r→r.ok→∀w:World,
  (∃a v i,(Instr.findKey j xv E).run G w= .ok (some (i,v)) w∧vr φ a v∧K a=r)∨((Instr.findKey j xv E).run G w= .ok none w∧N=r)
 put:∀{y:AV} {yv:Value} {es:ML} {E:List MapEntry} {c:Nat} {K:ML→Nat→R} {r:R},vr φ y yv→mr φ es E→putM es x y c K=r→r.ok→∀w:World,
  (∃i v en es',(Instr.findKey j xv E).run G w= .ok (some (i,v)) w∧E[i]? =some en∧en.key=xv∧mr φ es' (E.modify i fun e=>{e with key:=xv,val:=yv})∧K es' c=r)∨
  (∃es',(Instr.findKey j xv E).run G w= .ok none w∧mr φ es' (E++[{key:=xv,val:=yv,born:=c}])∧K es' (c+1)=r)
theorem keyP_now {kd:KD} {x:AV} {xv:Value} {d:TypeDesc} {j:TypeId} (hx:KV φ kd x xv d) (hu:G.underlying j=some d):KeyP G φ j x xv where
 val:=by cases hx with|i _ _ _=>exact rfl|s _ hs=>exact ⟨hs,rfl⟩
 check b w:=kv_check hx hu b 9999
 stays w:=stays_ok hx
 find hm h hok w:=by
  rcases find_ok hx 0 hm h hok with ⟨a,v,i,f1,f2,f3⟩|⟨f1,f2⟩
  ·exact .inl ⟨a,v,i,by simp [Instr.findKey,run_underlying hu,f1],f2,f3⟩
  exact .inr ⟨by simp [Instr.findKey,run_underlying hu,f1],f2⟩
 put hy hm h hok w:=by
  rcases put_ok hx hy 0 hm h hok with ⟨i,v,en,es',f1,f2,f3,f4,f5⟩|⟨es',f1,f2,f3⟩
  ·rw [Nat.zero_add] at f1
   exact .inl ⟨i,v,en,es',by simp [Instr.findKey,run_underlying hu,f1],f2,f3,f4,f5⟩
  exact .inr ⟨es',by simp [Instr.findKey,run_underlying hu,f1],f2,f3⟩
theorem kq_row {el:TypeId} {d N:Nat} {q:IntKind} (hel:G.underlying el=some (.int q)) (hin:inT G el=true) (h1:G.cellsOf el=1):∀{la lx:AV} {xs ys:Array Value} {i:Nat} {K:Bool→R} {r:R},lr φ la (ys.toList.drop i)→lr φ lx (xs.toList.drop i)→xs.size=N→i≤N→
    keyQ la lx K=r→r.ok→∀w:World,∃b,(Op.eqItems (d+1) el (G.cellsOf el) xs ys (List.range' i (N-i))).run G w= .ok b w∧K b=r∧(b=true→la=lx∧ys.toList.drop i=xs.toList.drop i):=by
 have hagg:∀w,(isAgg el).run G w= .ok false w:=fun w=>by simp [isAgg,run_underlying hel]
 intro la
 induction la with
 |ln=>
  intro lx xs ys i K r hy hx hN hi h hok w
  obtain ⟨e1,e2⟩:=bR_ok (show bR (isLnA lx) (K true) (.bad 48)=r from h) hok
  have hlx:lx= .ln:=by cases lx<;>first|rfl|cases e1
  subst hlx
  have hx0:xs.toList.drop i=[]:=lr_ln hx
  have:N-i=0:=by have:=congrArg List.length hx0;simp at this;omega
  rw [this]
  exact ⟨true,by simp [Op.eqItems],e2,fun _=>⟨rfl,by rw [hx0];exact lr_ln hy⟩⟩
 |lc a t _ ih=>
  intro lx xs ys i K r hy hx hN hi h hok w
  obtain ⟨y,u,rfl,e1⟩:=onL_ok (show (onL lx fun y u=>onI a fun k n=>onI y fun j m=>bR (beqK k j) (bR (iEq n m) (keyQ t u K) (K false)) (.bad 47))=r from h) hok
  obtain ⟨k,n,rfl,e2⟩:=onI_ok e1 hok
  obtain ⟨j,m,rfl,e3⟩:=onI_ok e2 hok
  obtain ⟨e4,e5⟩:=bR_ok e3 hok
  have:=beqK_eq e4
  subst this
  obtain ⟨v1,r1,hy1,hy2,hy3⟩:=lr_lc hy
  obtain ⟨v2,r2,hx1,hx2,hx3⟩:=lr_lc hx
  have hy2':v1= .int k n:=hy2
  have hx2':v2= .int k m:=hx2
  subst hy2' hx2'
  have hyi:ys[i]? =some (.int k n):=by
   have:=congrArg List.head? hy1
   rw [List.head?_drop] at this;simpa using this
  have hxi:xs[i]? =some (.int k m):=by
   have:=congrArg List.head? hx1
   rw [List.head?_drop] at this;simpa using this
  have hiN:i<N:=by
   have:=(Array.getElem?_eq_some_iff.1 hxi).1;omega
  have py:∀w,(part el ys (i*G.cellsOf el)).run G w= .ok (.int k n) w:=fun w=>by simp [part,hagg,h1,hyi]
  have px:∀w,(part el xs (i*G.cellsOf el)).run G w= .ok (.int k m) w:=fun w=>by simp [part,hagg,h1,hxi]
  have hdy:ys.toList.drop (i+1)=r1:=by rw [←List.drop_drop,hy1];rfl
  have hdx:xs.toList.drop (i+1)=r2:=by rw [←List.drop_drop,hx1];rfl
  have heq:∀w,(Op.equalIn (d+1) el (.int k m) (.int k n)).run G w= .ok (m==n) w:=fun w=>by simp [Op.equalIn,run_underlying hel]
  rw [show N-i=(N-(i+1))+1 by omega,List.range'_succ]
  rw [bR_eq,iEq_eq] at e5
  by_cases hnm:n=m
  ·subst hnm
   rw [if_pos (by simp)] at e5
   obtain ⟨b,f1,f2,f3⟩:=ih (i:=i+1) (by rw [hdy];exact hy3) (by rw [hdx];exact hx3) hN (by omega) e5 hok w
   refine ⟨b,?_,f2,fun hb=> ?_⟩
   ·simp only [Op.eqItems,Sem.run_bind,px,py,heq,Result.andThen_ok]
    simpa using f1
   obtain ⟨g1,g2⟩:=f3 hb
   rw [hdy,hdx] at g2
   exact ⟨by rw [g1],by rw [hy1,hx1,g2]⟩
  rw [if_neg (by simp [hnm])] at e5
  refine ⟨false,?_,e5,fun hh=>by cases hh⟩
  simp only [Op.eqItems,Sem.run_bind,px,py,heq,Result.andThen_ok]
  have:(m==n)=false:=beq_eq_false_iff_ne.2 (Ne.symm hnm)
  rw [this];simp
 |_=>intro lx xs ys i K r hy;exact False.elim hy
theorem wd_list:∀{l:AV} {vs:List Value},lr φ l vs→allWd l=true→∃ns:List Int,vs=ns.map (Value.int .i64)∧∀n∈ns,iIn .i64 n=true:=by
 intro l
 induction l with
 |ln=>intro vs h _;rw [lr_ln h];exact ⟨[],rfl,fun n hn=>by cases hn⟩
 |lc a t _ ih=>
  intro vs h hw
  obtain ⟨v,m,rfl,h1,h2⟩:=lr_lc h
  have hw':bB (isWd a) (allWd t) false=true:=hw
  rw [bB_eq] at hw'
  split at hw'
  case isFalse=>cases hw'
  rename_i ha
  obtain ⟨ns,rfl,h4⟩:=ih h2 hw'
  cases a with
  |it k n=>
   have ha':bB (beqK k .i64) (iIn .i64 n) false=true:=ha
   rw [bB_eq] at ha'
   split at ha'
   case isFalse=>cases ha'
   rename_i hk
   have:=beqK_eq hk
   subst this
   have h1':v=_:=h1
   subst h1'
   exact ⟨n::ns,rfl,fun x hx=>by
    rcases List.mem_cons.1 hx with rfl|hx
    ·exact ha'
    exact h4 x hx⟩
  |_=>cases ha
 |_=>intro vs h;exact False.elim h
theorem mapM_some {α β:Type} {f:α→Option β}:∀(L:List α),(∀i∈L,∃y,f i=some y)→∃ys,L.mapM f=some ys
 |[],_=>⟨[],rfl⟩
 |x::L,h=>by
  obtain ⟨y,hy⟩:=h x (by simp)
  obtain ⟨ys,hys⟩:=mapM_some L (fun i hi=>h i (by simp [hi]))
  exact ⟨y::ys,by simp [List.mapM_cons,hy,hys]⟩
theorem wf_in {v:Int} (h:iIn .i64 v=true):(Lit.int .i64 v).wf=true:=by
 have h1:IntKind.i64.min= -9223372036854775808:=by decide
 have h2:IntKind.i64.max=9223372036854775807:=by decide
 simp only [Lit.wf,h1,h2]
 cases v with
 |ofNat m=>have h':=Nat.le_of_ble_eq_true h;simp;omega
 |negSucc m=>have h':=Nat.le_of_ble_eq_true h;simp;omega
theorem row_key {j el:TypeId} {N:Nat} (A:WideMaps.ArrKey G j el N) (he:G.underlying el=some (.int .i64)) (hsz:∃m,G.types.size=m+1) {l:List Int} (hl:l.length=N) (hw:∀x∈l,iIn .i64 x=true):∃kl,keyOf G j (.agg (l.map (Value.int .i64)).toArray)=some kl:=by
 obtain ⟨m,hm⟩:=hsz
 have hkt:=A.keyType ⟨m,hm⟩
 have hone:=A.one
 have hsize:=A.size
 unfold keyOf
 simp only [A.hu]
 have hform:(Value.agg (l.map (Value.int .i64)).toArray).formed G j=true:=by
  simp [Value.formed,A.hu,hsize,hl]
 rw [hkt,hform]
 simp only [Bool.and_self,if_true]
 have hk:∃ls,G.keyLits (G.types.size+1) j (Value.agg (l.map (Value.int .i64)).toArray).cells.toList=some ls:=by
  simp only [Value.cells,Program.keyLits,A.hu]
  rw [if_pos (by simp [hsize,hl])]
  have:∃ys,(List.range N).mapM (fun i=>G.keyLits G.types.size el (((l.map (Value.int .i64)).drop (i*G.cellsOf el)).take (G.cellsOf el)))=some ys:=by
   refine mapM_some _ fun i hi=> ?_
   have hi':i<l.length:=by rw [hl];simpa using hi
   have h1:((l.map (Value.int .i64)).drop (i*G.cellsOf el)).take (G.cellsOf el)=[.int .i64 l[i]]:=by
    rw [hone,Nat.mul_one]
    apply List.ext_getElem?
    intro j
    rcases j with _|j
    ·simp [List.getElem?_drop,hi']
    simp [List.getElem?_take]
   rw [h1,hm]
   exact ⟨[.int .i64 l[i]],by simp [Program.keyLits,he,wf_in (hw l[i] (List.getElem_mem hi'))]⟩
  obtain ⟨ys,hys⟩:=this
  exact ⟨ys.flatten,by simp [hys]⟩
 obtain ⟨ls,hls⟩:=hk
 exact ⟨_,by rw [hls];rfl⟩
theorem ask_ok {j el:TypeId} {N:Nat} {x:AV} {xs:Array Value} (hu:G.underlying j=some (.array N el)) (hel:G.underlying el=some (.int .i64)) (hin:inT G el=true) (h1:G.cellsOf el=1) (hN:xs.size=N) (hx:lr φ x xs.toList) {k:AV} {kv:Value} (hk:vr φ k kv) {K:Bool→R} {r:R}
    (h:keyQ k (.ag x) K=r) (hok:r.ok):∀w:World,∃b,(Op.equal j (.agg xs) kv).run G w= .ok b w∧K b=r∧(b=true→kv= .agg xs):=by
 cases k with
 |ag l=>
  obtain ⟨ys,rfl,hy,_⟩:=hk
  intro w
  obtain ⟨i,hi⟩:=Option.isSome_iff_exists.1 (show (G.info? el).isSome=true from hin)
  have h':keyQ l x K=r:=h
  obtain ⟨b,f1,f2,f3⟩:=kq_row (d:=9998) (i:=0) hel hin h1 (by simpa using hy) (by simpa using hx) hN (Nat.zero_le _) h' hok w
  obtain ⟨d,hd⟩:∃d,∀(t:TypeId) (x y:Value),Op.equal t x y=Op.equalIn (d+1+1) t x y:=⟨9998,fun _ _ _=>rfl⟩
  obtain ⟨b2,g1,g2,g3⟩:=kq_row (d:=d) (i:=0) hel hin h1 (by simpa using hy) (by simpa using hx) hN (Nat.zero_le _) h' hok w
  refine ⟨b2,?_,g2,fun hb=> ?_⟩
  ·rw [hd,run_equalIn_array w (d+1) xs ys hu hi,List.range_eq_range']
   simpa using g1
  have:=(g3 hb).2
  simp only [List.drop_zero] at this
  rw [Array.ext' this]
 |it k0 n0=>
  obtain ⟨_,_,hh,_⟩:=onI_ok (show (onI (.ag x) fun j m=>bR (beqK k0 j) (bR (iEq n0 m) (K true) (K false)) (.bad 47))=r from h) hok
  cases hh
 |st s0=>
  obtain ⟨_,hh,_⟩:=onS_ok (show (onS (.ag x) fun r=>bR (beqS s0 r) (K true) (K false))=r from h) hok
  cases hh
 |ln=>exact False.elim hk
 |lc _ _=>exact False.elim hk
 |_=>subst h;exact False.elim hok
theorem keyP_row {j el:TypeId} {N:Nat} {l:AV} {xv:Value} (hu:G.underlying j=some (.array N el)) (hel:G.underlying el=some (.int .i64)) (hin:inT G el=true) (h1:G.cellsOf el=1) (hsz:G.cellsOf j=N) (hty:1≤G.types.size)
    (hv:vr φ (.ag l) xv) (hlen:lenA l=N) (hw:allWd l=true):KeyP G φ j (.ag l) xv:=by
 obtain ⟨xs,rfl,hx,hone⟩:=hv
 obtain ⟨ns,hns,hin64⟩:=wd_list hx hw
 have hN:xs.size=N:=by rw [lr_len hx] at hlen;simpa using hlen
 have A:WideMaps.ArrKey G j el N:=⟨hu,by unfold Program.plainKey;rw [hel],h1,hsz⟩
 have hts:∃m,G.types.size=m+1:=⟨G.types.size-1,by omega⟩
 have hxs:xs=(ns.map (Value.int .i64)).toArray:=by rw [←hns]
 obtain ⟨kl,hkl⟩:=row_key A hel hts (l:=ns) (by rw [←hN,hxs];simp) hin64
 rw [←hxs] at hkl
 have hempty:∀w,(Instr.findKey j (.agg xs) []).run G w= .ok none w:=fun w=>by simp [Instr.findKey,run_underlying hu,Instr.findNow]
 have hcons:∀e E w,(Instr.findKey j (.agg xs) (e::E)).run G w=(Instr.findAsking j (.agg xs) (e::E)).run G w:=fun e E w=>by simp [Instr.findKey,run_underlying hu,Instr.findNow,Instr.sameNow]
 have fnd:∀{es:ML} {E:List MapEntry} {K:AV→R} {N r:R} (i:Nat),mr φ es E→findM es (.ag l) K N=r→r.ok→∀w:World,
     (∃a v j',(Instr.findAsking j (.agg xs) E i).run G w= .ok (some (j',v)) w∧vr φ a v∧K a=r)∨((Instr.findAsking j (.agg xs) E i).run G w= .ok none w∧N=r):=by
  intro es
  induction es with
  |z=>intro E K N r i hm h _ w;obtain rfl:E=[]:=hm;exact .inr ⟨by simp [Instr.findAsking],h⟩
  |c k v b u ih=>
   intro E K N' r i hm h hok w
   obtain ⟨en,E',rfl,m1,m2,_,m4⟩:=hm
   obtain ⟨q,e1,e2,_⟩:=ask_ok hu hel hin h1 hN hx m1 (show (keyQ k (.ag l) fun b=>bR b (K v) (findM u (.ag l) K N'))=r from h) hok w
   cases q with
   |true=>exact .inl ⟨v,en.val,i,by simp [Instr.findAsking,e1],m2,e2⟩
   |false=>
    rcases ih (i+1) m4 (show findM u (.ag l) K N'=r from e2) hok w with ⟨a,w',j',f1,f2,f3⟩|⟨f1,f2⟩
    ·exact .inl ⟨a,w',j',by simp [Instr.findAsking,e1,f1],f2,f3⟩
    exact .inr ⟨by simp [Instr.findAsking,e1,f1],f2⟩
 have hval:vr φ (.ag l) (.agg xs):=⟨xs,rfl,hx,hone⟩
 have pt:∀{y:AV} {yv:Value} {es:ML} {E:List MapEntry} {c:Nat} {K:ML→Nat→R} {r:R} (i:Nat),vr φ y yv→mr φ es E→putM es (.ag l) y c K=r→r.ok→∀w:World,
     (∃n v en es',(Instr.findAsking j (.agg xs) E i).run G w= .ok (some (i+n,v)) w∧E[n]? =some en∧en.key= .agg xs∧mr φ es' (E.modify n fun e=>{e with key:= .agg xs,val:=yv})∧K es' c=r)∨
     (∃es',(Instr.findAsking j (.agg xs) E i).run G w= .ok none w∧mr φ es' (E++[{key:= .agg xs,val:=yv,born:=c}])∧K es' (c+1)=r):=by
  intro y yv es
  induction es with
  |z=>
   intro E c K r i hy hm h _ w
   obtain rfl:E=[]:=hm
   refine .inr ⟨.c (.ag l) y c .z,by simp [Instr.findAsking],⟨_,[],rfl,hval,hy,rfl,rfl⟩,?_⟩
   have h':(fN (Nat.succ c) fun c2=>K (.c (.ag l) y c .z) c2)=r:=h
   rw [fN_eq] at h';exact h'
  |c k v b u ih=>
   intro E c K r i hy hm h hok w
   obtain ⟨en,E',rfl,m1,m2,m3,m4⟩:=hm
   obtain ⟨q,e1,e2,e3⟩:=ask_ok hu hel hin h1 hN hx m1 (show (keyQ k (.ag l) fun q=>bR q (K (.c (.ag l) y b u) c) (putM u (.ag l) y c fun u c=>K (.c k v b u) c))=r from h) hok w
   cases q with
   |true=>exact .inl ⟨0,en.val,en,.c (.ag l) y b u,by simp [Instr.findAsking,e1],rfl,e3 rfl,⟨_,E',rfl,hval,hy,m3,m4⟩,e2⟩
   |false=>
    rcases ih (i+1) hy m4 (show (putM u (.ag l) y c fun u c=>K (.c k v b u) c)=r from e2) hok w with ⟨n,w',en2,es',f1,f2,f3,f4,f5⟩|⟨es',f1,f2,f3⟩
    ·exact .inl ⟨n+1,w',en2,.c k v b es',by simp [Instr.findAsking,e1,f1];omega,by simpa using f2,f3,⟨en,_,rfl,m1,m2,m3,f4⟩,f5⟩
    exact .inr ⟨.c k v b es',by simp [Instr.findAsking,e1,f1],⟨en,_,rfl,m1,m2,m3,f2⟩,f3⟩
 refine ⟨hval,fun b w=>A.law.check w b hkl,fun w=>A.law.stays w hkl,fun {es E K N' r} hm h hok w=> ?_,fun {y yv es E c K r} hy hm h hok w=> ?_⟩
 ·rcases fnd 0 hm h hok w with ⟨a,v,i,f1,f2,f3⟩|⟨f1,f2⟩
  ·cases E with
   |nil=>simp [Instr.findAsking] at f1
   |cons en E=>exact .inl ⟨a,v,i,by rw [hcons];exact f1,f2,f3⟩
  cases E with
  |nil=>exact .inr ⟨hempty w,f2⟩
  |cons en E=>exact .inr ⟨by rw [hcons];exact f1,f2⟩
 rcases pt 0 hy hm h hok w with ⟨n,v,en,es',f1,f2,f3,f4,f5⟩|⟨es',f1,f2,f3⟩
 ·cases E with
  |nil=>simp at f2
  |cons en2 E=>exact .inl ⟨n,v,en,es',by rw [hcons];simpa using f1,f2,f3,f4,f5⟩
 cases E with
 |nil=>exact .inr ⟨es',hempty w,f2,f3⟩
 |cons en E=>exact .inr ⟨es',by rw [hcons];exact f1,f2,f3⟩
theorem ky_ok {kd:KD} {j:TypeId} {y:Operand} {r r':R} (hk:keyT G j=some kd) (hy:OD φ t ρ y) (h:kyA kd (evO (cOd y) t) r=r') (hok:r'.ok):KeyP G φ j (evO (cOd y) t) (ρ y)∧r=r':=by
 unfold keyT at hk
 split at hk
 ·rename_i k hu
  cases hk
  obtain ⟨i,n,h1,h2⟩:=onI_ok (show (onI (evO (cOd y) t) fun _ _=>r)=r' from h) hok
  rw [OD,h1] at hy
  have hy':ρ y=_:=hy
  rw [h1,hy']
  exact ⟨keyP_now (.i _ _ _) hu,h2⟩
 ·rename_i hu
  cases hk
  obtain ⟨s,h1,h2⟩:=onS_ok (show (onS (evO (cOd y) t) fun _=>r)=r' from h) hok
  rw [OD,h1] at hy
  obtain ⟨hs,hy'⟩:=hy
  rw [h1,hy']
  exact ⟨keyP_now (.s _ hs) hu,h2⟩
 ·rename_i n el hu
  split at hk
  ·rename_i hel
   split at hk
   ·rename_i hc
    cases hk
    simp only [Bool.and_eq_true] at hc
    obtain ⟨⟨⟨c1,c2⟩,c3⟩,c4⟩:=hc
    obtain ⟨l,h1,h2⟩:=onA_ok (show (onA (evO (cOd y) t) fun l=>bR (bB (Nat.beq (lenA l) n) (allWd l) false) r (.bad 48))=r' from h) hok
    obtain ⟨h3,h4⟩:=bR_ok h2 hok
    rw [bB_eq] at h3
    split at h3
    case isFalse=>cases h3
    rename_i hl
    rw [OD,h1] at hy
    rw [h1]
    exact ⟨keyP_row hu hel c3 (Nat.eq_of_beq_eq_true c1) (Nat.eq_of_beq_eq_true c2) (Nat.le_of_ble_eq_true c4) hy (Nat.eq_of_beq_eq_true hl) h3,h4⟩
   cases hk
  cases hk
 cases hk
theorem r_lk {ty j el:TypeId} {m k:Operand} {ok:Bool} {kd:KD} {z:AV} (h:Rel φ e nx w) (hm:OD φ t ρ m) (hk:OD φ t ρ k) (hu:G.underlying ty=some (.map j el)) (hz:zeT G el=some z) (hkd:keyT G j=some kd) (ho:o.op= .lookup ty m k ok) (hok:(evX (.lk kd z ok (cOd m) (cOd k)) t (.mk e nx)).ok):
    Rd G φ e nx w o ρ (evX (.lk kd z ok (cOd m) (cOd k)) t (.mk e nx)):=by
 obtain ⟨i,zv,z1,z2,z3,_⟩:=zeT_ok hz φ
 obtain ⟨hkp,e1⟩:=ky_ok hkd hk (show kyA kd (evO (cOd k) t) _=evX (.lk kd z ok (cOd m) (cOd k)) t (.mk e nx) from rfl) hok
 have ck:=fun b=>hkp.check b w
 have run:∀(E:Array MapEntry) (r:Option (Nat×Value)),((∃l,ρ m= .map (some l)∧∃c,w.heap[l]? =some (.map E c))∨(ρ m= .map none∧E= #[]))→(Instr.findKey j (ρ k) E.toList).run G w= .ok r w→
     (execOp ρ o).run G w= .ok (.value (if ok then .tuple #[(r.map (·.2)).getD zv,.bool r.isSome] else (r.map (·.2)).getD zv)) w:=fun E r hE hf=>by
  have hz':=run_zero' (G:=G) (w:=w) z1 z2
  rcases hE with ⟨l,e2,c,e3⟩|⟨e2,rfl⟩
  ·cases r with
   |none=>simp [execOp,ho,Instr.lookup,run_underlying hu,e2,getObj,Sem.run,e3,ck,hf,hz']
   |some p=>simp [execOp,ho,Instr.lookup,run_underlying hu,e2,getObj,Sem.run,e3,ck,hf]
  cases r with
  |none=>simp at hf;simp [execOp,ho,Instr.lookup,run_underlying hu,e2,ck,hf,hz']
  |some p=>simp at hf;simp [execOp,ho,Instr.lookup,run_underlying hu,e2,ck,hf]
 have key:∀(E:Array MapEntry) (es:ML),mr φ es E.toList→((∃l,ρ m= .map (some l)∧∃c,w.heap[l]? =some (.map E c))∨(ρ m= .map none∧E= #[]))→
     (findM es (evO (cOd k) t) (fun v=>fV v fun v=>Bool.rec (motive:=fun _=>R) (.v v (.mk e nx)) (.v (.tu (.lc v (.lc (.bo true) .ln))) (.mk e nx)) ok) (Bool.rec (motive:=fun _=>R) (.v z (.mk e nx)) (.v (.tu (.lc z (.lc (.bo false) .ln))) (.mk e nx)) ok))=evX (.lk kd z ok (cOd m) (cOd k)) t (.mk e nx)→
     Rd G φ e nx w o ρ (evX (.lk kd z ok (cOd m) (cOd k)) t (.mk e nx)):=fun E es hmr hE hev=>by
  rcases hkp.find hmr hev hok w with ⟨a,v,j2,f1,f2,f3⟩|⟨f1,f2⟩
  ·rw [fV_eq] at f3
   have hrun:=run E _ hE f1
   cases ok with
   |true=>exact ⟨_,.tuple #[v,.bool true],f3.symm,⟨_,rfl,v,[.bool true],rfl,f2,.bool true,[],rfl,rfl,rfl⟩,by rw [hrun];rfl⟩
   |false=>exact ⟨_,v,f3.symm,f2,by rw [hrun];rfl⟩
  have hrun:=run E _ hE f1
  cases ok with
  |true=>exact ⟨_,.tuple #[zv,.bool false],f2.symm,⟨_,rfl,zv,[.bool false],rfl,z3,.bool false,[],rfl,rfl,rfl⟩,by rw [hrun];rfl⟩
  |false=>exact ⟨_,zv,f2.symm,z3,by rw [hrun];rfl⟩
 rcases mk_ok h hm e1 hok with ⟨es,c,E,l,e2,e3,e4,e5⟩|⟨e2,e5⟩
 ·exact key E es e4 (.inl ⟨l,e2,c,e3⟩) e5
 exact key #[] .z rfl (.inr ⟨e2,rfl⟩) e5
end
end Go.Ev
