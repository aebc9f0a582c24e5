/-
  What the formulas say, over numbers and lists alone. Nothing here is trusted.
-/
import Derived.Test.YtochgocgmeeppaaMCyclesWa
set_option linter.unusedVariables false
set_option linter.unusedSimpArgs false
set_option linter.unusedSectionVars false
namespace Go.Proofs.Ytochgocgmeeppaa.G
open Go Go.Ab
set_option maxRecDepth 100000
set_option maxHeartbeats 1000000
theorem tT {A B:Prop} (h:A):(true=true→A)∧(true=false→B):=⟨fun _=>h,fun c=>(by cases c)⟩
theorem tF {A B:Prop} (h:B):(false=true→A)∧(false=false→B):=⟨fun c=>(by cases c),fun _=>h⟩
theorem tB {A B:Prop} {b:Bool} (h:A):((b == b)=true→A)∧((b == b)=false→B):=⟨fun _=>h,fun c=>(by simp at c)⟩
theorem tE {A B:Prop} {b:Bool} (e:b=true) (h:A):(b=true→A)∧(b=false→B):=⟨fun _=>h,fun c=>(by rw [e] at c;cases c)⟩
theorem tG {A B:Prop} {b:Bool} (e:b=false) (h:B):(b=true→A)∧(b=false→B):=⟨fun c=>(by rw [e] at c;cases c),fun _=>h⟩
theorem tP {p A B:Prop} (e:p) (h:A):(p→A)∧(¬p→B):=⟨fun _=>h,fun c=>absurd e c⟩
theorem tN {p A B:Prop} (e:¬p) (h:B):(p→A)∧(¬p→B):=⟨fun c=>absurd c e,fun _=>h⟩
theorem up {Y : Nat → Prop} (n : Nat) (last : Y n) (step : ∀ i, i < n → Y (i + 1) → Y i) : Y 0 := by
  have key : ∀ d i, i + d = n → Y i := by
    intro d
    induction d with
    | zero => intro i h; obtain rfl : i = n := by omega
              exact last
    | succ d ih => intro i h; exact step i (by omega) (ih (i + 1) (by omega))
  exact key n 0 (by omega)
theorem w1 {i:Nat} (h:i<4611686018427387904):IntKind.i64.wrap ((i:Int)+(1:Int))=((i+1:Nat):Int):=Xk (by omega)
theorem wI {n:Int} (h:-9223372036854775808≤n∧n<9223372036854775808):IntKind.i64.wrap n=n:=wrap_i64 h.1 h.2
theorem nn (i:Nat):((i:Int)).toNat=i:=rfl
theorem gD {α:Type} {l:List α} {i:Nat} (h:i<l.length) (d:α):l.getD i d=l[i]:=by rw [List.getD_eq_getElem?_getD,List.getElem?_eq_getElem h];rfl
theorem dropC {α:Type} {l:List α} {i:Nat} (h:i<l.length):l.drop i=l[i]::l.drop (i+1):=List.drop_eq_getElem_cons h
theorem len1 {α:Type} (a:α):([a]:List α).length=1:=rfl
theorem cz32 (n:Nat) (h:(FloatKind.f32.decode n).isNaN=false):cz .f32 n=n:=by simp [cz,h]
theorem XU:cz .f32 0=0:=zbz
def pFin (x:Nat):Bool:=fcmp .eql .f32 (fop .sub .f32 x x) (cz .f32 0)
def pAll (l:List Nat):Bool:=l.all pFin
theorem UT (x:Nat) (l:List Nat):pAll (x::l)=(pFin x&&pAll l):=rfl
theorem WB {α:Type} (l:List α) (p:α→Bool) {X:Int→Prop} {T F:Prop} (hX:∀ (i:Nat) (h:i<l.length),((p l[i]=true→X ((i+1:Nat):Int))∧(p l[i]=false→F))→X (i:Int))
  (hend:T→X (l.length:Int)) (ht:l.all p=true→T) (hf:l.all p=false→F):X (0:Int):=by
 have key:=up (Y:=fun i=>((l.drop i).all p=true→T)→((l.drop i).all p=false→F)→X (i:Int)) l.length (fun h _=>hend (h (by rw [List.drop_length];rfl))) fun i hi hn h1 h2=>?_
 ·exact key (by rw [List.drop_zero];exact ht) (by rw [List.drop_zero];exact hf)
 ·rw [dropC hi,List.all_cons] at h1 h2;refine hX i hi ⟨fun e=>hn (fun a=>h1 (by rw [e,a];rfl)) (fun a=>h2 (by rw [e,a];rfl)),fun e=>h2 (by rw [e];rfl)⟩
theorem qo {a:Nat} {K:Bool→Prop} (h:K (pFin a)):spec_l01Finite.wp a K:=h
theorem qQ {a:Nat} {K:Bool→Prop} (h:K (pFin a)):impl_IsFinite.wp a K:=h
theorem uy {l:List Nat} {K:Bool→Prop} (hl:l.length≤2 ^ 20) (h:K (pAll l)):spec_l02Finite.wp l K:=by
 intro X hX;refine WB l pFin (X:=X) (T:=K true) (F:=K false) (fun i hi hh=>?_) (fun ht=>hX _ ⟨fun c=>absurd c (by omega),fun _=>ht⟩) (fun e=>by rw [pAll,e] at h;exact h) (fun e=>by rw [pAll,e] at h;exact h);refine hX _ ⟨fun _=>⟨⟨by omega,by omega⟩,qo ?_⟩,fun c=>absurd (show (i:Int)<l.length by omega) c⟩;rw [nn,gD hi,w1 (by omega)];exact hh
theorem X6 {ll:List (List Nat)} {K:Bool→Prop} (hll:ll.length≤2 ^ 20) (hl:∀ l∈ll,l.length≤2 ^ 20) (h:K (ll.all pAll)):impl_areFinite.wp ll K:=by
 intro X hX;refine WB ll pAll (X:=X) (T:=K true) (F:=K false) (fun i hi hh=>?_) (fun ht=>hX _ ⟨fun c=>absurd c (by omega),fun _=>ht⟩) (fun e=>by rw [e] at h;exact h) (fun e=>by rw [e] at h;exact h);refine hX _ ⟨fun _=>⟨⟨by omega,by omega⟩,fun Y hY=>?_⟩,fun c=>absurd (show (i:Int)<ll.length by omega) c⟩;have hlen:=hl ll[i] (List.getElem_mem hi);rw [nn,gD hi,w1 (by omega)] at hY;refine WB ll[i] pFin (X:=Y) (T:=X ((i+1:Nat):Int)) (F:=K false) (fun j hj h2=>?_) (fun ht=>hY _ ⟨fun c=>absurd c (by omega),fun _=>ht⟩) (fun e=>hh.1 e) (fun e=>hh.2 e);refine hY _ ⟨fun _=>⟨⟨by omega,by omega⟩,qQ ?_⟩,fun c=>absurd (show (j:Int)<ll[i].length by omega) c⟩;rw [nn,gD hj,w1 (by omega)];exact h2
theorem kI {l:List Nat} {K:Bool→Prop} (hl:l.length≤2 ^ 20) (h:K (pAll l)):impl_areFinite.wp [l] K:=by
 refine X6 (by simp) (fun x hx=>by rw [List.mem_singleton] at hx;subst hx;exact hl) ?_;rw [List.all_cons,List.all_nil,Bool.and_true];exact h
theorem vI {a b c:Int} {K:Bool→Prop} (h:K (decide (b≤a∧a≤c))):impl_within.wp a b c K:=by
 refine⟨fun h1=>?_,fun h1=>?_⟩
 ·have:decide (b≤a∧a≤c)=decide (a≤c):=by simp [h1]
  rw [this] at h;exact h
 ·have:decide (b≤a∧a≤c)=false:=by simp [h1]
  rw [this] at h;exact h
theorem Qf {a b c:Int} {K:Bool→Prop} (h:K (decide (b≤a∧a≤c))):spec_l00In.wp a b c K:=by
 refine⟨fun h1=>?_,fun h1=>?_⟩
 ·have:decide (b≤a∧a≤c)=decide (a≤c):=by simp [h1]
  rw [this] at h;exact h
 ·have:decide (b≤a∧a≤c)=false:=by simp [h1]
  rw [this] at h;exact h
def x8 (x:Nat):Bool:=pFin x&&fcmp .gtr .f32 x (cz .f32 0)
def XV (x:Nat):Bool:=pFin x&&fcmp .geq .f32 x (cz .f32 0)
theorem qR {a:Nat} {K:Bool→Prop} (h:K (x8 a)):spec_l02Above.wp a K:=by
 refine qo ⟨fun h1=>?_,fun h1=>?_⟩<;>(rw [x8,h1] at h;exact h)
theorem uF {a:Nat} {K:Bool→Prop} (h:K (x8 a)):impl_isOver.wp a K:=by
 refine qQ ⟨fun h1=>?_,fun h1=>?_⟩<;>(rw [x8,h1] at h;exact h)
theorem WC {a:Nat} {K:Bool→Prop} (h:K (XV a)):spec_l02Least.wp a K:=by
 refine qo ⟨fun h1=>?_,fun h1=>?_⟩<;>(rw [XV,h1] at h;exact h)
theorem Vw {a:Nat} {K:Bool→Prop} (h:K (XV a)):impl_isLeast.wp a K:=by
 refine qQ ⟨fun h1=>?_,fun h1=>?_⟩<;>(rw [XV,h1] at h;exact h)
theorem wP {l:List Nat} {K:Bool→Bool→Prop} (hl:l.length≤2 ^ 20) (h:K (pAll l) (pAll l)):impl_finiteList.wp l K:=by
 refine kI hl ⟨fun h1=>?_,fun h1=>?_⟩<;>(rw [h1] at h;exact h)
open Ieee in
theorem Jb (b:Nat):single.read (Op.negFloat .f32 b)=(single.read b).opposite:=by
 have hs:single.signWeight=2 ^ 31:=rfl;have h2:Op.negFloat .f32 b % 2 ^ 31=b % 2 ^ 31:=by
  show (b ^^^ 2 ^ 31) % 2 ^ 31=_;rw [Nat.xor_mod_two_pow];simp
 have h3:Op.negFloat .f32 b / 2 ^ 31 % 2=(b / 2 ^ 31+1) % 2:=by
  show (b ^^^ 2 ^ 31) / 2 ^ 31 % 2=_;rw [Nat.xor_div_two_pow,Nat.div_self (by decide)];have:=Nat.xor_mod_two_pow (a:=b / 2 ^ 31) (b:=1) (n:=1);rw [Nat.pow_one] at this;rw [this];rcases Nat.mod_two_eq_zero_or_one (b / 2 ^ 31) with h|h
  ·rw [h,show (b / 2 ^ 31+1) % 2=1 by omega];decide
  ·rw [h,show (b / 2 ^ 31+1) % 2=0 by omega];decide
 have h4:(Op.negFloat .f32 b / 2 ^ 31 % 2 == 1)=!(b / 2 ^ 31 % 2 == 1):=by
  rw [h3];rcases Nat.mod_two_eq_zero_or_one (b / 2 ^ 31) with h|h
  ·rw [h,show (b / 2 ^ 31+1) % 2=1 by omega];rfl
  ·rw [h,show (b / 2 ^ 31+1) % 2=0 by omega];rfl
 unfold Format.read;rw [hs,h2,h4]
 dsimp only
 split
 ·rfl
 ·split
  ·rfl
  ·split<;>rfl
open Ieee in
theorem zch {b:Nat} (h:(single.read b).isNaN=false):single.read (fneg .f32 b)=(single.read b).opposite:=by
 have e:(FloatKind.f32.decode (Op.negFloat .f32 b)).isNaN=false:=by
  show (single.read _).isNaN=false;rw [Jb];cases hr:single.read b with
  | nan s t=>rw [hr] at h;cases h
  | _=>rfl
 rw [fneg,cz32 _ e,Jb]
open Ieee in
theorem ZR (s:Bool) (m a b:Nat):signed s m (a+b)=signed s m a*(2 ^ b:Nat):=by
 unfold signed
 cases s<;>simp [Nat.shiftLeft_eq,Nat.pow_add,Int.mul_assoc,Int.neg_mul]
theorem zci {a b:Int}:(compare a b == Ordering.lt)=decide (a<b):=by
 rw [show compare a b=compareOfLessAndEq a b from rfl];unfold compareOfLessAndEq
 split
 ·simp [*]
 ·split<;>simp [*]
theorem cmp_eq {a b:Int}:(compare a b == Ordering.eq)=decide (a=b):=by
 rw [show compare a b=compareOfLessAndEq a b from rfl];unfold compareOfLessAndEq
 split
 ·simp;omega
 ·split<;>simp [*]
open Ieee in
theorem zd7 (x:Nat):single.read x=if x % 2147483648<8388608 then .number (x / 2147483648 % 2 == 1) (x % 2147483648) (-149) else if x % 2147483648<2139095040 then .number (x / 2147483648 % 2 == 1) (8388608+x % 2147483648 % 8388608) (-149+((x % 2147483648 / 8388608 - 1:Nat):Int)) else if x % 2147483648=2139095040 then .infinity (x / 2147483648 % 2 == 1) else .nan (x / 2147483648 % 2 == 1) (x % 2147483648 - 2139095040):=by
 unfold Format.read;rw [show single.binade=8388608 from rfl,show single.infRung=2139095040 by decide,show single.signWeight=2147483648 from rfl,show single.leastPlace=-149 by decide]
open Ieee in
structure Fmt (f:Format):Prop where
 b:f.binade=2 ^ f.fractionBits
 i:f.infRung<f.signWeight
 r:f.infRung=(2 ^ f.exponentBits - 1)*f.binade
 x:2≤f.exponentBits
theorem fmt1:Fmt Ieee.single:=⟨rfl,by decide,rfl,by decide⟩
theorem fmt2:Fmt Ieee.double:=⟨rfl,by decide,rfl,by decide⟩
open Ieee in
theorem ZT {f:Format} (h:Fmt f) (s:Bool) {r:Nat} (hr:r≤f.infRung):f.read (f.word s r)=if r<f.binade then .number s r f.leastPlace else if r<f.infRung then .number s (f.binade+r % f.binade) (f.leastPlace+(r / f.binade - 1:Nat)) else .infinity s:=by
 have hi:=h.i;have hl:r<f.signWeight:=by omega
 have e1:f.word s r % f.signWeight=r:=by
  unfold Format.word
  split
  ·rw [Nat.add_mod_left,Nat.mod_eq_of_lt hl]
  ·exact Nat.mod_eq_of_lt hl
 have e2:(f.word s r / f.signWeight % 2 == 1)=s:=by
  unfold Format.word
  cases s with
  | true=>rw [if_pos rfl,Nat.add_div_left _ (by omega),Nat.div_eq_of_lt hl];rfl
  | false=>rw [if_neg (by decide),Nat.div_eq_of_lt hl];rfl
 unfold Format.read
 dsimp only
 rw [e1,e2]
 split
 ·rfl
 ·split
  ·rfl
  ·rw [if_pos (by omega)]
open Ieee in
theorem YS {f:Format} (h:Fmt f) (s:Bool) {M M0 k:Nat} {e:Int} (hM:M=M0*2 ^ k) (h0:M0<2 ^ (f.fractionBits+1)) (hL:f.leastPlace≤e+k) (hI:(e+k - f.leastPlace).toNat+2≤2 ^ f.exponentBits - 1):∃ m e',f.read (f.nearest s M e)=.number s m e'∧f.leastPlace≤e'∧m*2 ^ (e' - f.leastPlace).toNat=M0*2 ^ (e+k - f.leastPlace).toNat:=by
 have hB:=h.b;have hBp:0<f.binade:=by rw [hB];exact Nat.two_pow_pos _
 generalize hp:f.fractionBits=p at *;generalize hLL:f.leastPlace=L at *
 by_cases hz:M0=0
 ·subst hz;rw [Nat.zero_mul] at hM;refine⟨0,L,?_,Int.le_refl _,by simp⟩;unfold Format.nearest;rw [if_pos hM,ZT h s (Nat.zero_le _),if_pos hBp,hLL]
 have hMz:M≠0:=by rw [hM];exact Nat.mul_ne_zero hz (by have:=Nat.two_pow_pos k;omega)
 have hlog:M.log2=M0.log2+k:=by
  refine (Nat.log2_eq_iff hMz).2 ⟨?_,?_⟩
  ·rw [hM,Nat.pow_add];exact Nat.mul_le_mul_right _ (Nat.log2_self_le hz)
  ·rw [hM,show M0.log2+k+1=(M0.log2+1)+k by omega,Nat.pow_add];exact Nat.mul_lt_mul_of_pos_right Nat.lt_log2_self (Nat.two_pow_pos k)
 have hg1:M0<2 ^ (M0.log2+1):=Nat.lt_log2_self;have hg2:2 ^ M0.log2≤M0:=Nat.log2_self_le hz;have hgp:M0.log2≤p:=by
  have:=(Nat.pow_lt_pow_iff_right (a:=2) (by decide)).1 (Nat.lt_of_le_of_lt hg2 h0);omega
 generalize hg:M0.log2=g at *;unfold Format.nearest;rw [if_neg hMz]
 dsimp only
 rw [hlog,hLL,hp,hB];generalize hla:max (e+((g+k:Nat):Int) - p) L=last;have hlast:last≤e+k∧L≤last∧(last=L∨last=e+g+k - p)∧e+g+k - p≤last:=by omega
 have hkept:Toward.even.cut s (M <<< (e - last).toNat) (last - e).toNat=M0*2 ^ (e+k - last).toNat:=by
  unfold Toward.cut
  by_cases c:last≤e
  ·have:(last - e).toNat=0:=by omega
   rw [this]
   dsimp only
   rw [Nat.zero_min,Nat.shiftLeft_zero,Nat.div_one,Nat.mod_one,Nat.shiftLeft_eq,hM,Nat.mul_assoc,←Nat.pow_add,show k+(e - last).toNat=(e+k - last).toNat by omega];rfl
  ·have:(e - last).toNat=0:=by omega
   rw [this,Nat.shiftLeft_zero];have hd:min (last - e).toNat (M.log2+2)=(last - e).toNat:=by omega
   dsimp only
   rw [hd,Nat.shiftLeft_eq,Nat.one_mul];have hMe:M=M0*2 ^ (e+k - last).toNat*2 ^ (last - e).toNat:=by rw [hM,Nat.mul_assoc,←Nat.pow_add];congr 2;omega
   have hpp:=Nat.two_pow_pos (last - e).toNat
   rw [hMe,Nat.mul_div_cancel _ hpp,Nat.mul_mod_left,Nat.mul_zero];have e1:decide (2 ^ (last - e).toNat<0)=false:=by simp
   have e2:(2 ^ (last - e).toNat == 0)=false:=by simp
   rw [e1,e2];rfl
 rw [hkept];have hkl:M0*2 ^ (e+k - last).toNat<2 ^ (p+1):=by
  have:M0*2 ^ (e+k - last).toNat<2 ^ (g+1)*2 ^ (e+k - last).toNat:=Nat.mul_lt_mul_of_pos_right hg1 (Nat.two_pow_pos _);refine Nat.lt_of_lt_of_le this ?_;rw [←Nat.pow_add];exact Nat.pow_le_pow_right (by decide) (by omega)
 have hkb:last≠L→2 ^ p≤M0*2 ^ (e+k - last).toNat:=by
  intro c;have:2 ^ g*2 ^ (e+k - last).toNat≤M0*2 ^ (e+k - last).toNat:=Nat.mul_le_mul_right _ hg2;refine Nat.le_trans ?_ this;rw [←Nat.pow_add];exact Nat.pow_le_pow_right (by decide) (by omega)
 have hfin:M0*2 ^ (e+k - L).toNat=M0*2 ^ (e+k - last).toNat*2 ^ (last - L).toNat:=by
  rw [Nat.mul_assoc,←Nat.pow_add];congr 2;omega
 rw [hfin];generalize M0*2 ^ (e+k - last).toNat=q at *;rw [Nat.pow_succ] at hkl;rw [hB] at hBp;have hinf:(last - L).toNat*2 ^ p+q<f.infRung:=by
  rw [h.r,hB];generalize hE:2 ^ f.exponentBits - 1=E at *;have h1:((last - L).toNat+2)*2 ^ p≤E*2 ^ p:=Nat.mul_le_mul_right _ (by omega);rw [Nat.add_mul] at h1;omega
 rw [Nat.min_eq_left (by omega),ZT h s (by omega),hB]
 by_cases c:q<2 ^ p
 ·have hl:last=L:=by
   by_cases c2:last=L
   ·exact c2
   ·have:=hkb c2;omega
  subst hl;refine⟨q,last,?_,Int.le_refl _,rfl⟩;rw [show (last - last).toNat=0 by omega,Nat.zero_mul,Nat.zero_add,if_pos c,hLL]
 ·refine⟨q,last,?_,hlast.2.1,rfl⟩;generalize ha:(last - L).toNat=a at *;have h1:(a*2 ^ p+q) / 2 ^ p=a+1:=by
   rw [Nat.mul_comm,Nat.mul_add_div hBp]
   congr 1
   rw [show q=(q - 2 ^ p)+2 ^ p by omega,Nat.add_div_right _ hBp,Nat.div_eq_of_lt (by omega)]
  have h2:(a*2 ^ p+q) % 2 ^ p=q - 2 ^ p:=by
   rw [Nat.mul_comm,Nat.mul_add_mod,Nat.mod_eq_sub_mod (by omega),Nat.mod_eq_of_lt (by omega)]
  have h3:¬a*2 ^ p+q<2 ^ p:=by omega
  rw [if_neg h3,if_pos hinf,h1,h2,hLL]
  congr 1
  ·omega
  ·omega
open Ieee in
def vD (L:Int) (s:Bool) (m:Nat) (e:Int):Int:=signed s m (e - L).toNat
theorem kJ (L:Int) (s:Bool) (m:Nat) (e:Int):(vD L s m e).natAbs=m*2 ^ (e - L).toNat:=by
 unfold vD Ieee.signed;rw [Nat.shiftLeft_eq]
 cases s
 ·simp only [Bool.false_eq_true,if_false];exact Int.natAbs_natCast _
 ·simp only [if_true,Int.natAbs_neg];exact Int.natAbs_natCast _
theorem jR (L:Int) (s:Bool) (m:Nat) (e:Int):(s=true→vD L s m e≤0)∧(s=false→0≤vD L s m e):=by
 unfold vD Ieee.signed
 cases s
 ·refine⟨fun c=>(by cases c),fun _=>?_⟩;simp only [Bool.false_eq_true,if_false];exact Int.natCast_nonneg _
 ·refine⟨fun _=>?_,fun c=>(by cases c)⟩;simp only [if_true];exact Int.neg_nonpos_of_nonneg (Int.natCast_nonneg _)
theorem wM (n:Nat):(0:Int)<((2 ^ n:Nat):Int):=by have:=Nat.two_pow_pos n;omega
open Ieee in
theorem sum_num {L:Int} {s t:Bool} {m n:Nat} {i j:Int} (hi:L≤i) (hj:L≤j):∃ u M b,(Datum.number s m i).sum (.number t n j)=some (.number u M b)∧L≤b∧M*2 ^ (b - L).toNat=(vD L s m i+vD L t n j).natAbs∧(u=true→vD L s m i+vD L t n j≤0)∧(u=false→0≤vD L s m i+vD L t n j):=by
 have e1:vD L s m i=signed s m (i - min i j).toNat*(2 ^ (min i j - L).toNat:Nat):=by
  unfold vD;rw [←ZR];congr 1;omega
 have e2:vD L t n j=signed t n (j - min i j).toNat*(2 ^ (min i j - L).toNat:Nat):=by
  unfold vD;rw [←ZR];congr 1;omega
 rw [e1,e2];have hp:=wM (min i j - L).toNat
 refine⟨_,_,_,rfl,by omega,?_,?_,?_⟩
 ·rw [←Int.add_mul,Int.natAbs_mul];rfl
 ·intro c;rw [←Int.add_mul];refine Int.mul_nonpos_of_nonpos_of_nonneg ?_ (Int.le_of_lt hp)
  by_cases hz:signed s m (i - min i j).toNat+signed t n (j - min i j).toNat=0
  ·omega
  ·rw [if_neg hz] at c;have:=of_decide_eq_true c;omega
 ·intro c;rw [←Int.add_mul];refine Int.mul_nonneg ?_ (Int.le_of_lt hp)
  by_cases hz:signed s m (i - min i j).toNat+signed t n (j - min i j).toNat=0
  ·omega
  ·rw [if_neg hz] at c;have:=of_decide_eq_false c;omega
theorem zcj (L:Int) (s:Bool) (m:Nat) (e:Int):vD L (!s) m e=- vD L s m e:=by
 unfold vD Ieee.signed;cases s<;>simp
open Ieee in
theorem zd8 {L:Int} {s t:Bool} {m n:Nat} {i j:Int} (hi:L≤i) (hj:L≤j):(Datum.number s m i).order (.number t n j)=some (compare (vD L s m i) (vD L t n j)):=by
 have e1:vD L s m i=signed s m (i - min i j).toNat*(2 ^ (min i j - L).toNat:Nat):=by
  unfold vD;rw [←ZR];congr 1;omega
 have e2:vD L t n j=signed t n (j - min i j).toNat*(2 ^ (min i j - L).toNat:Nat):=by
  unfold vD;rw [←ZR];congr 1;omega
 rw [e1,e2];show some (compare (signed s m (i - min i j).toNat) (signed t n (j - min i j).toNat))=_
 congr 1
 have hp:=wM (min i j - L).toNat
 generalize signed s m (i - min i j).toNat=a;generalize signed t n (j - min i j).toNat=b;generalize ((2 ^ (min i j - L).toNat:Nat):Int)=p at hp;rw [show compare a b=compareOfLessAndEq a b from rfl,show compare (a*p) (b*p)=compareOfLessAndEq (a*p) (b*p) from rfl];unfold compareOfLessAndEq;have h1:(a*p<b*p)=(a<b):=propext ⟨fun h=>Int.lt_of_mul_lt_mul_right h (Int.le_of_lt hp),fun h=>Int.mul_lt_mul_of_pos_right h hp⟩;have h2:(a*p=b*p)=(a=b):=propext ⟨fun h=>Int.eq_of_mul_eq_mul_right (Int.ne_of_gt hp) h,fun h=>by rw [h]⟩;simp only [h1,h2]
theorem zck {x : Nat} (h : fcmp .neq .f32 x x = false) : num .f32 x = true := by
  unfold num
  cases hd : (FloatKind.f32.decode x).isNaN with
  | false => rfl
  | true =>
    exfalso
    have h2 : Ieee.single.order x x = none := by
      unfold Ieee.Format.order
      have hd' : (Ieee.single.read x).isNaN = true := hd
      cases hr : Ieee.single.read x with
      | nan s t => rfl
      | _ => rw [hr] at hd'; cases hd'
    unfold fcmp at h
    rw [show FloatKind.f32.format = Ieee.single from rfl, h2] at h
    cases h
def YT (x:Nat):Nat:=if fcmp .neq .f32 x x=true then 2143289344 else x
theorem ZU {x:Nat} {K:Int→Prop} (hx:x<2 ^ 32) (h:K (YT x:Nat)):spec_l01Bits.wp x K:=by
 refine⟨fun c=>?_,fun c=>⟨?_,?_⟩⟩
 ·rw [YT,if_pos c] at h;exact h
 ·exact zck c
 ·rw [YT,if_neg (by rw [c];decide)] at h;rw [wI (by omega)];exact h
def sgn (x:Nat):Bool:=(x / 2147483648 % 2 == 1)
open Ieee in
theorem Ud {x:Nat} {s:Bool} {m:Nat} {e:Int} (h:single.read x=.number s m e):s=sgn x∧-149≤e∧(e=-149∧m<16777216∧x % 2147483648=m∨-149<e∧8388608≤m∧m<16777216∧x % 2147483648=(e+150).toNat*8388608+(m - 8388608)):=by
 rw [zd7] at h;have hr:x % 2147483648<2147483648:=Nat.mod_lt _ (by decide);generalize x % 2147483648=r at h hr
 by_cases h1:r<8388608
 ·rw [if_pos h1] at h;simp only [Datum.number.injEq] at h;obtain⟨rfl,rfl,rfl⟩:=h;exact⟨rfl,by omega,.inl ⟨rfl,by omega,rfl⟩⟩
 ·rw [if_neg h1] at h
  by_cases h2:r<2139095040
  ·rw [if_pos h2] at h;simp only [Datum.number.injEq] at h;obtain⟨rfl,rfl,rfl⟩:=h;have hmd:r % 8388608<8388608:=Nat.mod_lt _ (by decide);have hdm:=Nat.div_add_mod r 8388608;refine⟨rfl,by omega,?_⟩
   by_cases h3:r / 8388608=1
   ·left;refine⟨by omega,by omega,by omega⟩
   ·right
    refine⟨by omega,by omega,by omega,?_⟩;rw [show (-149+((r / 8388608 - 1:Nat):Int)+150).toNat=r / 8388608 by omega];omega
  ·rw [if_neg h2] at h;split at h<;>cases h
def Vx (a b:Nat):Bool:=decide (YT a=YT b)
theorem Vy {a b:Nat} {K:Bool→Prop} (ha:a<2 ^ 32) (hb:b<2 ^ 32) (h:K (Vx a b)):spec_l01Same.wp a b K:=by
 refine ZU ha (ZU hb ?_);have e:decide (((YT a:Nat):Int)=((YT b:Nat):Int))=Vx a b:=by
  unfold Vx;rw [Bool.eq_iff_iff,decide_eq_true_eq,decide_eq_true_eq];omega
 rw [e];exact h
theorem czl {n:Nat} (h:n<2 ^ 32):cz .f32 n<2 ^ 32:=by
 unfold cz;split
 ·decide
 ·exact h
theorem fop_lt (op : BinOp) (x y : Nat) : fop op .f32 x y < 2 ^ 32 := by
  unfold fop
  cases h : floatBits op .f32 x y with
  | none => decide
  | some r =>
    refine czl ?_
    unfold floatBits at h
    cases op
    case add => exact Ieee.Format.add_lt _ h
    case sub => exact Ieee.Format.sub_lt _ h
    case mul => exact Ieee.Format.mul_lt _ h
    case quo => exact Ieee.Format.div_lt _ h
    all_goals cases h
theorem Jc {l:List Int} {i n:Int} {K:Int→Prop} (hl:∀ x∈l,0≤x∧x<256) (hi:0≤i∧i≤1000) (hn:2≤n∧n≤2 ^ 30) (h:∀ v,0≤v→v<n→K v):laws_b10At.wp l i n K:=by
 have key:∀ x:Int,0≤x→0≤Int.tmod x n∧Int.tmod x n<n:=by
  intro x hx;rw [Int.tmod_eq_emod_of_nonneg hx];exact⟨Int.emod_nonneg _ (by omega),Int.emod_lt_of_pos _ (by omega)⟩
 refine⟨fun c=>absurd c (by omega),fun _=>⟨fun c=>⟨⟨hi.1,c⟩,by omega,?_⟩,fun c=>⟨by omega,?_⟩⟩⟩
 ·have hi2:i.toNat<l.length:=by omega
  rw [gD hi2];have hb:=hl _ (List.getElem_mem hi2);rw [wI (by omega)];have:=key _ hb.1;exact h _ this.1 this.2
 ·rw [wI (n:=i*37) (by omega),wI (by omega)];have:=key (i*37+11) (by omega);exact h _ this.1 this.2
open Ieee in
theorem cut_zero (s:Bool) (n:Nat):Toward.even.cut s n 0=n:=by
 unfold Toward.cut
 simp [Nat.mod_one]
open Ieee in
theorem zcl (s:Bool) (n d:Nat):n / 2 ^ min d (n.log2+2)≤Toward.even.cut s n d∧Toward.even.cut s n d≤n / 2 ^ min d (n.log2+2)+1:=by
 unfold Toward.cut;rw [Nat.one_shiftLeft]
 dsimp only
 have:∀ b:Bool,b.toNat≤1:=by intro b;cases b<;>decide
 constructor
 ·exact Nat.le_add_right _ _
 ·exact Nat.add_le_add_left (this _) _
open Ieee in
def Bf (k:FloatKind) (x A:Nat):Prop:=∃ s m e,k.format.read x=.number s m e∧k.format.leastPlace≤e∧m*2 ^ (e - k.format.leastPlace).toNat≤2 ^ A
theorem Bf.up {k:FloatKind} {x A B:Nat} (h:Bf k x A) (hAB:A≤B):Bf k x B:=by
 obtain⟨s,m,e,r,l,v⟩:=h;exact⟨s,m,e,r,l,Nat.le_trans v (Nat.pow_le_pow_right (by decide) hAB)⟩
theorem Jd {M a A:Nat} (hM:M≠0) (h:M*2 ^ a≤2 ^ A):M.log2+a≤A:=by
 have h1:2 ^ M.log2*2 ^ a≤M*2 ^ a:=Nat.mul_le_mul_right _ (Nat.log2_self_le hM);rw [←Nat.pow_add] at h1;exact (Nat.pow_le_pow_iff_right (a:=2) (by decide)).1 (Nat.le_trans h1 h)
def Lf (k:FloatKind) (x A:Nat):Prop:=∃ s m e,k.format.read x=.number s m e∧k.format.leastPlace≤e∧2 ^ A≤m*2 ^ (e - k.format.leastPlace).toNat
open Ieee in
def Pf (k:FloatKind) (x A B:Nat):Prop:=∃ m e,k.format.read x=.number false m e∧k.format.leastPlace≤e∧2 ^ A≤m*2 ^ (e - k.format.leastPlace).toNat∧m*2 ^ (e - k.format.leastPlace).toNat≤2 ^ B
theorem Pf.bf {k:FloatKind} {x A B:Nat} (h:Pf k x A B):Bf k x B:=by
 obtain⟨m,e,r,l,_,v⟩:=h;exact⟨false,m,e,r,l,v⟩
theorem Pf.lf {k:FloatKind} {x A B:Nat} (h:Pf k x A B):Lf k x A:=by
 obtain⟨m,e,r,l,v,_⟩:=h;exact⟨false,m,e,r,l,v⟩
open Ieee in
theorem KC {f:Format} (h:Fmt f) (s:Bool) {n kept:Nat} (hk:kept≤2*2 ^ f.fractionBits) (hn:0<n→2 ^ f.fractionBits≤kept) (hr:n*f.binade+kept<f.infRung):∃ m e,f.read (f.word s (n*f.binade+kept))=.number s m e∧f.leastPlace≤e∧m*2 ^ (e - f.leastPlace).toNat=kept*2 ^ n:=by
 have hB:=h.b;rw [ZT h s (Nat.le_of_lt hr)];rw [hB] at hr ⊢;clear hB;generalize f.fractionBits=p at *;generalize f.leastPlace=L at *;have hp:0<2 ^ p:=Nat.two_pow_pos _
 by_cases c:n*2 ^ p+kept<2 ^ p
 ·rw [if_pos c];have hn0:n=0:=by
   refine Nat.eq_zero_of_not_pos fun c2=>?_;have:1*2 ^ p≤n*2 ^ p:=Nat.mul_le_mul_right _ c2;omega
  subst hn0;exact⟨_,_,rfl,Int.le_refl _,by rw [Int.sub_self];simp⟩
 ·rw [if_neg c,if_pos hr];refine⟨_,_,rfl,by omega,?_⟩;have e1:(L+(((n*2 ^ p+kept) / 2 ^ p - 1:Nat):Int) - L).toNat=(n*2 ^ p+kept) / 2 ^ p - 1:=by omega
  rw [e1];have hge:2 ^ p≤kept:=by
   by_cases c2:0<n
   ·exact hn c2
   ·have:n=0:=by omega
    subst this;omega
  by_cases c3:kept=2*2 ^ p
  ·have e2:n*2 ^ p+kept=(n+2)*2 ^ p:=by rw [c3,Nat.add_mul]
   rw [e2,Nat.mul_div_cancel _ hp,Nat.mul_mod_left,c3,show n+2 - 1=n+1 by omega,Nat.pow_succ];rw [Nat.add_zero,Nat.mul_comm 2 (2 ^ p),Nat.mul_assoc,Nat.mul_comm 2]
  ·have e2:n*2 ^ p+kept=(kept - 2 ^ p)+(n+1)*2 ^ p:=by rw [Nat.add_mul];omega
   rw [e2,Nat.add_mul_div_right _ _ hp,Nat.add_mul_mod_self_right,Nat.div_eq_of_lt (by omega),Nat.mod_eq_of_lt (by omega)];rw [show 0+(n+1) - 1=n by omega,show 2 ^ p+(kept - 2 ^ p)=kept by omega]
open Ieee in
theorem near_le {f:Format} (h:Fmt f) (s:Bool) {M v q a b:Nat} {e:Int} (hM:M≠0) (hv:v<2 ^ (f.fractionBits+1)) (hab:(a:Int) - b=e - f.leastPlace) (hle:M*2 ^ a≤v*2 ^ q*2 ^ b) (hI:(e+M.log2 - f.fractionBits - f.leastPlace).toNat+4≤2 ^ f.exponentBits) (hq:q+f.fractionBits+5≤2 ^ f.exponentBits) :
  ∃ m e',f.read (f.nearest s M e)=.number s m e'∧f.leastPlace≤e'∧m*2 ^ (e' - f.leastPlace).toNat≤v*2 ^ q:=by
 have hB:=h.b;have hr:=h.r
 by_cases hx:M*2 ^ a=v*2 ^ q*2 ^ b
 ·rw [Nat.mul_assoc,←Nat.pow_add] at hx
  by_cases c:a≤q+b
  ·have e1:M=v*2 ^ (q+b - a):=by
    have:q+b=(q+b - a)+a:=by omega
    rw [this,Nat.pow_add,←Nat.mul_assoc] at hx;exact Nat.eq_of_mul_eq_mul_right (Nat.two_pow_pos _) hx
   obtain⟨m,e',r1,r2,r3⟩:=YS h s (M:=M) (M0:=v) (k:=q+b - a) (e:=e) e1 hv (by omega) (by omega);refine⟨m,e',r1,r2,?_⟩;rw [r3];exact Nat.le_of_eq (by congr 2;omega)
  ·have e1:v=M*2 ^ (a - (q+b)):=by
    have:a=(a - (q+b))+(q+b):=by omega
    rw [this,Nat.pow_add,←Nat.mul_assoc] at hx;exact (Nat.eq_of_mul_eq_mul_right (Nat.two_pow_pos _) hx).symm
   have hMv:M≤v:=by rw [e1];exact Nat.le_mul_of_pos_right _ (Nat.two_pow_pos _)
   obtain⟨m,e',r1,r2,r3⟩:=YS h s (M:=M) (M0:=M) (k:=0) (e:=e) (by rw [Nat.pow_zero,Nat.mul_one]) (by omega) (by omega) (by
    have:M.log2≤f.fractionBits:=by
     have:=(Nat.log2_lt hM).2 (show M<2 ^ (f.fractionBits+1) by omega);omega
    have hlv:(a - (q+b))≤f.fractionBits:=by
     refine Nat.le_of_not_lt fun c2=>?_;have h1:2 ^ (f.fractionBits+1)≤2 ^ (a - (q+b)):=Nat.pow_le_pow_right (by decide) (by omega);have h2:1*2 ^ (a - (q+b))≤M*2 ^ (a - (q+b)):=Nat.mul_le_mul_right _ (by omega);omega
    omega)
   refine⟨m,e',r1,r2,?_⟩;rw [r3,e1,Nat.mul_assoc,←Nat.pow_add];exact Nat.le_of_eq (by congr 2;omega)
 have hlt:M*2 ^ a<v*2 ^ q*2 ^ b:=Nat.lt_of_le_of_ne hle hx;have g1:M<2 ^ (M.log2+1):=Nat.lt_log2_self;have g2:2 ^ M.log2≤M:=Nat.log2_self_le hM;unfold Format.nearest;rw [if_neg hM]
 dsimp only
 have key:∃ kept,Toward.even.cut s (M <<< (e - max (e+M.log2 - f.fractionBits) f.leastPlace).toNat) (max (e+M.log2 - f.fractionBits) f.leastPlace - e).toNat=kept∧kept≤2*2 ^ f.fractionBits∧(0<(max (e+M.log2 - f.fractionBits) f.leastPlace - f.leastPlace).toNat→2 ^ f.fractionBits≤kept)∧kept*2 ^ (max (e+M.log2 - f.fractionBits) f.leastPlace - f.leastPlace).toNat≤v*2 ^ q:=by
  refine⟨_,rfl,?_⟩;generalize f.fractionBits=p at *;generalize f.leastPlace=L at *;generalize hg:M.log2=g at *;generalize hl:max (e+g - p) L=last at *;rw [Nat.shiftLeft_eq]
  by_cases c:last≤e
  ·rw [show (last - e).toNat=0 by omega,cut_zero];refine⟨?_,fun hc=>?_,?_⟩
   ·have h1:M*2 ^ (e - last).toNat<2 ^ (g+1)*2 ^ (e - last).toNat:=Nat.mul_lt_mul_of_pos_right g1 (Nat.two_pow_pos _);rw [←Nat.pow_add] at h1;have h2:2 ^ (g+1+(e - last).toNat)≤2 ^ (p+1):=Nat.pow_le_pow_right (by decide) (by omega);rw [Nat.pow_succ] at h2;omega
   ·have h1:2 ^ g*2 ^ (e - last).toNat≤M*2 ^ (e - last).toNat:=Nat.mul_le_mul_right _ g2;rw [←Nat.pow_add,show g+(e - last).toNat=p by omega] at h1;exact h1
   ·rw [Nat.mul_assoc,←Nat.pow_add];have e1:a=((e - last).toNat+(last - L).toNat)+b:=by omega
    rw [e1,Nat.pow_add,←Nat.mul_assoc] at hle;exact Nat.le_of_mul_le_mul_right hle (Nat.two_pow_pos _)
  ·rw [show (e - last).toNat=0 by omega,Nat.pow_zero,Nat.mul_one];obtain⟨k1,k2⟩:=zcl s M (last - e).toNat
   rw [hg] at k1 k2;generalize hd:(last - e).toNat=d at *;generalize hG:(last - L).toNat=G at *;have hdiv:M / 2 ^ min d (g+2)<2 ^ (p+1):=by
    refine (Nat.div_lt_iff_lt_mul (Nat.two_pow_pos _)).2 (Nat.lt_of_lt_of_le g1 ?_);rw [←Nat.pow_add];exact Nat.pow_le_pow_right (by decide) (by omega)
   refine⟨?_,fun hc=>?_,?_⟩
   ·rw [Nat.pow_succ] at hdiv;omega
   ·refine Nat.le_trans ?_ k1;refine (Nat.le_div_iff_mul_le (Nat.two_pow_pos _)).2 ?_;rw [←Nat.pow_add];exact Nat.le_trans (Nat.pow_le_pow_right (by decide) (by omega)) g2
   ·
    have hGq:G≤q:=by
     refine Nat.le_of_not_lt fun c2=>?_;have hG0:0<G:=by omega
     have h1:2 ^ g*2 ^ a≤M*2 ^ a:=Nat.mul_le_mul_right _ g2;have h2:v*2 ^ q*2 ^ b<2 ^ (p+1)*2 ^ q*2 ^ b:=Nat.mul_lt_mul_of_pos_right (Nat.mul_lt_mul_of_pos_right hv (Nat.two_pow_pos _)) (Nat.two_pow_pos _);have h3:2 ^ g*2 ^ a<2 ^ (p+1)*2 ^ q*2 ^ b:=by omega
     rw [←Nat.pow_add,←Nat.pow_add,←Nat.pow_add] at h3;have:=(Nat.pow_lt_pow_iff_right (a:=2) (by decide)).1 h3;omega
    have h5:M<v*2 ^ (q - G)*2 ^ d:=by
     have e1:b+G=d+a:=by omega
     have h6:M*2 ^ a*2 ^ G<v*2 ^ q*2 ^ b*2 ^ G:=Nat.mul_lt_mul_of_pos_right hlt (Nat.two_pow_pos _);have e2:v*2 ^ q*2 ^ b*2 ^ G=v*2 ^ (q - G)*2 ^ d*2 ^ a*2 ^ G:=by
      rw [Nat.mul_assoc,Nat.mul_assoc,Nat.mul_assoc,Nat.mul_assoc,Nat.mul_assoc,←Nat.pow_add,←Nat.pow_add,←Nat.pow_add,←Nat.pow_add,←Nat.pow_add]
      congr 2;omega
     rw [e2] at h6;have h7:=Nat.lt_of_mul_lt_mul_right h6;exact Nat.lt_of_mul_lt_mul_right h7
    have h6:M / 2 ^ min d (g+2)<v*2 ^ (q - G):=by
     by_cases c3:d≤g+2
     ·rw [Nat.min_eq_left c3];exact (Nat.div_lt_iff_lt_mul (Nat.two_pow_pos _)).2 h5
     ·rw [Nat.min_eq_right (by omega)];have:M / 2 ^ (g+2)=0:=Nat.div_eq_of_lt (Nat.lt_of_lt_of_le g1 (Nat.pow_le_pow_right (by decide) (by omega)));rw [this];refine Nat.pos_of_ne_zero fun c4=>?_;rw [c4,Nat.zero_mul] at h5;omega
    have h7:Toward.even.cut s M d≤v*2 ^ (q - G):=by omega
    have h8:=Nat.mul_le_mul_right (2 ^ G) h7;rw [Nat.mul_assoc,←Nat.pow_add,show q - G+G=q by omega] at h8;exact h8
 obtain⟨kept,k0,k1,k2,k3⟩:=key;rw [k0];generalize hN:(max (e+M.log2 - f.fractionBits) f.leastPlace - f.leastPlace).toNat=n at *;have hn:n=(e+M.log2 - f.fractionBits - f.leastPlace).toNat:=by omega
 have hp:0<2 ^ f.fractionBits:=Nat.two_pow_pos _;have hrl:n*f.binade+kept<f.infRung:=by
  have hu:n*f.binade+kept≤(n+2)*2 ^ f.fractionBits:=by
   rw [hB,Nat.add_mul];omega
  refine Nat.lt_of_le_of_lt hu ?_;rw [hr,hB];exact Nat.mul_lt_mul_of_pos_right (by omega) hp
 rw [Nat.min_eq_left (Nat.le_of_lt hrl)];obtain⟨m,e',r1,r2,r3⟩:=KC h s k1 k2 hrl;exact⟨m,e',r1,r2,by rw [r3];exact k3⟩
end Go.Proofs.Ytochgocgmeeppaa.G
namespace Go.Proofs.Ytochgocgmeeppaa.G
open Go Go.Ab
set_option maxRecDepth 100000
set_option maxHeartbeats 1000000
set_option exponentiation.threshold 4000
theorem zd9 {a b:Int}:((some (compare a b):Option Ordering) == some .lt || (some (compare a b):Option Ordering) == some .eq)=decide (a≤b):=by
 have h1:=zci (a:=a) (b:=b);have h2:=cmp_eq (a:=a) (b:=b);show (compare a b == Ordering.lt || compare a b == Ordering.eq)=_;rw [h1,h2,Bool.eq_iff_iff,Bool.or_eq_true,decide_eq_true_eq,decide_eq_true_eq,decide_eq_true_eq];omega
open Ieee in
theorem KD {f:Format} (h:Fmt f) (s:Bool) {M v q a b:Nat} {e:Int} (hM:M≠0) (hv:v<2 ^ (f.fractionBits+1)) (hab:(a:Int) - b=e - f.leastPlace) (hle:v*2 ^ q*2 ^ b≤M*2 ^ a) (hI:(e+M.log2 - f.fractionBits - f.leastPlace).toNat+4≤2 ^ f.exponentBits) :
  ∃ m e',f.read (f.nearest s M e)=.number s m e'∧f.leastPlace≤e'∧v*2 ^ q≤m*2 ^ (e' - f.leastPlace).toNat:=by
 have hB:=h.b;have hr:=h.r;have g1:M<2 ^ (M.log2+1):=Nat.lt_log2_self;have g2:2 ^ M.log2≤M:=Nat.log2_self_le hM;unfold Format.nearest;rw [if_neg hM]
 dsimp only
 have key:∃ kept,Toward.even.cut s (M <<< (e - max (e+M.log2 - f.fractionBits) f.leastPlace).toNat) (max (e+M.log2 - f.fractionBits) f.leastPlace - e).toNat=kept∧kept≤2*2 ^ f.fractionBits∧(0<(max (e+M.log2 - f.fractionBits) f.leastPlace - f.leastPlace).toNat→2 ^ f.fractionBits≤kept)∧v*2 ^ q≤kept*2 ^ (max (e+M.log2 - f.fractionBits) f.leastPlace - f.leastPlace).toNat:=by
  refine⟨_,rfl,?_⟩;generalize f.fractionBits=p at *;generalize f.leastPlace=L at *;generalize hg:M.log2=g at *;generalize hl:max (e+g - p) L=last at *;rw [Nat.shiftLeft_eq]
  by_cases c:last≤e
  ·rw [show (last - e).toNat=0 by omega,cut_zero];refine⟨?_,fun hc=>?_,?_⟩
   ·have h1:M*2 ^ (e - last).toNat<2 ^ (g+1)*2 ^ (e - last).toNat:=Nat.mul_lt_mul_of_pos_right g1 (Nat.two_pow_pos _);rw [←Nat.pow_add] at h1;have h2:2 ^ (g+1+(e - last).toNat)≤2 ^ (p+1):=Nat.pow_le_pow_right (by decide) (by omega);rw [Nat.pow_succ] at h2;omega
   ·have h1:2 ^ g*2 ^ (e - last).toNat≤M*2 ^ (e - last).toNat:=Nat.mul_le_mul_right _ g2;rw [←Nat.pow_add,show g+(e - last).toNat=p by omega] at h1;exact h1
   ·rw [Nat.mul_assoc,←Nat.pow_add];have e1:a=((e - last).toNat+(last - L).toNat)+b:=by omega
    rw [e1,Nat.pow_add,←Nat.mul_assoc] at hle;exact Nat.le_of_mul_le_mul_right hle (Nat.two_pow_pos _)
  ·rw [show (e - last).toNat=0 by omega,Nat.pow_zero,Nat.mul_one];obtain⟨k1,k2⟩:=zcl s M (last - e).toNat
   rw [hg] at k1 k2;generalize hd:(last - e).toNat=d at *;generalize hG:(last - L).toNat=G at *;have hdiv:M / 2 ^ min d (g+2)<2 ^ (p+1):=by
    refine (Nat.div_lt_iff_lt_mul (Nat.two_pow_pos _)).2 (Nat.lt_of_lt_of_le g1 ?_);rw [←Nat.pow_add];exact Nat.pow_le_pow_right (by decide) (by omega)
   have hlow:0<G→2 ^ p≤Toward.even.cut s M d:=fun hc=>by
    refine Nat.le_trans ?_ k1;refine (Nat.le_div_iff_mul_le (Nat.two_pow_pos _)).2 ?_;rw [←Nat.pow_add];exact Nat.le_trans (Nat.pow_le_pow_right (by decide) (by omega)) g2
   refine⟨?_,hlow,?_⟩
   ·rw [Nat.pow_succ] at hdiv;omega
   ·by_cases c2:G≤q
    ·have h5:v*2 ^ (q - G)*2 ^ d≤M:=by
      have e1:b+G=d+a:=by omega
      have h6:v*2 ^ q*2 ^ b*2 ^ G≤M*2 ^ a*2 ^ G:=Nat.mul_le_mul_right _ hle;have e2:v*2 ^ q*2 ^ b*2 ^ G=v*2 ^ (q - G)*2 ^ d*2 ^ a*2 ^ G:=by
       rw [Nat.mul_assoc,Nat.mul_assoc,Nat.mul_assoc,Nat.mul_assoc,Nat.mul_assoc,←Nat.pow_add,←Nat.pow_add,←Nat.pow_add,←Nat.pow_add,←Nat.pow_add]
       congr 2;omega
      rw [e2] at h6;exact Nat.le_of_mul_le_mul_right (Nat.le_of_mul_le_mul_right h6 (Nat.two_pow_pos _)) (Nat.two_pow_pos _)
     have h6:v*2 ^ (q - G)≤M / 2 ^ min d (g+2):=by
      by_cases c3:d≤g+2
      ·rw [Nat.min_eq_left c3];exact (Nat.le_div_iff_mul_le (Nat.two_pow_pos _)).2 h5
      ·have h7:v*2 ^ (q - G)=0:=by
        refine Nat.eq_zero_of_not_pos fun c4=>?_;have h8:1*2 ^ d≤v*2 ^ (q - G)*2 ^ d:=Nat.mul_le_mul_right _ c4;have h9:2 ^ (g+1)≤2 ^ d:=Nat.pow_le_pow_right (by decide) (by omega);omega
       rw [h7];exact Nat.zero_le _
     have h8:=Nat.mul_le_mul_right (2 ^ G) (Nat.le_trans h6 k1);rw [Nat.mul_assoc,←Nat.pow_add,show q - G+G=q by omega] at h8;exact h8
    ·have h3:v*2 ^ q≤2 ^ (p+1)*2 ^ q:=Nat.mul_le_mul_right _ (Nat.le_of_lt hv);have h4:=Nat.mul_le_mul_right (2 ^ G) (hlow (by omega));rw [←Nat.pow_add] at h3 h4;have h5:2 ^ (p+1+q)≤2 ^ (p+G):=Nat.pow_le_pow_right (by decide) (by omega);omega
 obtain⟨kept,k0,k1,k2,k3⟩:=key;rw [k0];generalize hN:(max (e+M.log2 - f.fractionBits) f.leastPlace - f.leastPlace).toNat=n at *;have hn:n=(e+M.log2 - f.fractionBits - f.leastPlace).toNat:=by omega
 have hp:0<2 ^ f.fractionBits:=Nat.two_pow_pos _;have hrl:n*f.binade+kept<f.infRung:=by
  have hu:n*f.binade+kept≤(n+2)*2 ^ f.fractionBits:=by
   rw [hB,Nat.add_mul];omega
  refine Nat.lt_of_le_of_lt hu ?_;rw [hr,hB];exact Nat.mul_lt_mul_of_pos_right (by omega) hp
 rw [Nat.min_eq_left (Nat.le_of_lt hrl)];obtain⟨m,e',r1,r2,r3⟩:=KC h s k1 k2 hrl;exact⟨m,e',r1,r2,by rw [r3];exact k3⟩
open Ieee in
theorem rnd {f:Format} (h:Fmt f) (s:Bool) {M a b:Nat} {e:Int} (hab:(a:Int) - b=e - f.leastPlace) (hI:M≠0→(e+M.log2 - f.fractionBits - f.leastPlace).toNat+4≤2 ^ f.exponentBits) :
  ∃ m e',f.read (f.nearest s M e)=.number s m e'∧f.leastPlace≤e'∧(∀ v q,v<2 ^ (f.fractionBits+1)→q+f.fractionBits+5≤2 ^ f.exponentBits→M*2 ^ a≤v*2 ^ q*2 ^ b→m*2 ^ (e' - f.leastPlace).toNat≤v*2 ^ q)∧(∀ v q,v<2 ^ (f.fractionBits+1)→v*2 ^ q*2 ^ b≤M*2 ^ a→v*2 ^ q≤m*2 ^ (e' - f.leastPlace).toNat):=by
 by_cases hM:M=0
 ·refine⟨0,f.leastPlace,?_,Int.le_refl _,fun v q _ _ _=>by simp,fun v q _ hv=>?_⟩
  ·unfold Format.nearest;have hBp:0<f.binade:=by rw [h.b];exact Nat.two_pow_pos _
   rw [if_pos hM,ZT h s (Nat.zero_le _),if_pos hBp]
  ·rw [hM,Nat.zero_mul] at hv;rcases Nat.mul_eq_zero.1 (Nat.le_zero.1 hv) with c|c
   ·rw [c];exact Nat.zero_le _
   ·have:=Nat.two_pow_pos b;omega
 ·obtain⟨m,e',r1,r2,_⟩:=KD (v:=0) (q:=0) h s hM (Nat.two_pow_pos _) hab (by simp) (hI hM);refine⟨m,e',r1,r2,fun v q hv hq hle=>?_,fun v q hv hle=>?_⟩
  ·obtain⟨m2,e2,w1,w2,w3⟩:=near_le h s hM hv hab hle (hI hM) hq;rw [r1] at w1;cases w1;exact w3
  ·obtain⟨m2,e2,w1,w2,w3⟩:=KD h s hM hv hab hle (hI hM);rw [r1] at w1;cases w1;exact w3
open Ieee in
def Vl (k:FloatKind) (x:Nat) (v:Int):Prop:=∃ s m e,k.format.read x=.number s m e∧k.format.leastPlace≤e∧vD k.format.leastPlace s m e=v
open Ieee in
def vlb (k:FloatKind) (x:Nat) (v:Int):Bool:=match k.format.read x with
 | .number s m e=>decide (k.format.leastPlace≤e)&&decide (vD k.format.leastPlace s m e=v)
 | _=>false
theorem x9 {k:FloatKind} {x:Nat} {v:Int} (h:vlb k x v=true):Vl k x v:=by
 unfold vlb at h
 split at h
 ·rename_i s m e hr
  rw [Bool.and_eq_true,decide_eq_true_eq,decide_eq_true_eq] at h;exact⟨s,m,e,hr,h.1,h.2⟩
 ·cases h
theorem ZH {k:FloatKind} {x y:Nat} {a b:Int} (hx:Vl k x a) (hy:Vl k y b):k.format.order x y=some (compare a b):=by
 obtain⟨s,m,i,r1,l1,v1⟩:=hx;obtain⟨t,n,j,r2,l2,v2⟩:=hy;unfold Ieee.Format.order;rw [r1,r2,zd8 l1 l2,v1,v2]
theorem Vz {k:FloatKind} {x y:Nat} {a b:Int} (hx:Vl k x a) (hy:Vl k y b):fcmp .lss k x y=decide (a<b):=by
 unfold fcmp;dsimp only;rw [ZH hx hy];exact zci
theorem zcm {k:FloatKind} {x y:Nat} {a b:Int} (hx:Vl k x a) (hy:Vl k y b):fcmp .eql k x y=decide (a=b):=by
 unfold fcmp;dsimp only;rw [ZH hx hy];exact cmp_eq
theorem Yi {k:FloatKind} {x y:Nat} {a b:Int} (hx:Vl k x a) (hy:Vl k y b):fcmp .leq k x y=decide (a≤b):=by
 unfold fcmp;dsimp only;rw [ZH hx hy];exact zd9
theorem vl_cz {k:FloatKind} {x:Nat} {v:Int} (h:Vl k x v):cz k x=x:=by
 obtain⟨s,m,e,r,_⟩:=h;unfold cz;rw [show k.decode x=k.format.read x from rfl,r];rfl
theorem Xy {op:BinOp} {k:FloatKind} {x y z:Nat} {v:Int} (h:floatBits op k x y=some z) (r:Vl k z v):Vl k (fop op k x y) v:=by
 unfold fop;rw [h];show Vl k (cz k z) v;rw [vl_cz r];exact r
def RepZ (f:Ieee.Format) (R:Int):Prop:=∃ v q,v<2 ^ (f.fractionBits+1)∧q+f.fractionBits+5≤2 ^ f.exponentBits∧R.natAbs=v*2 ^ q
theorem rndZ {k : FloatKind} (h : Fmt k.format) (s : Bool) {M a b : Nat} {e S : Int} (hab : (a : Int) - b = e - k.format.leastPlace) (hI : M ≠ 0 → (e + M.log2 - k.format.fractionBits - k.format.leastPlace).toNat + 4 ≤ 2 ^ k.format.exponentBits) (hS : S.natAbs = M * 2 ^ a) (h1 : s = true → S ≤ 0) (h2 : s = false → 0 ≤ S) :
    ∃ r : Int, Vl k (k.format.nearest s M e) r ∧ ∀ R, RepZ k.format R → (S ≤ R * ((2 ^ b : Nat) : Int) → r ≤ R) ∧ (R * ((2 ^ b : Nat) : Int) ≤ S → R ≤ r) := by
  obtain ⟨m, e', r1, r2, r3, r4⟩ := rnd h s hab hI
  refine ⟨_, ⟨s, m, e', r1, r2, rfl⟩, fun R hR => ?_⟩
  obtain ⟨v, q, hv, hq, hRv⟩ := hR
  have a1 := kJ k.format.leastPlace s m e'
  have a2 := jR k.format.leastPlace s m e'
  have b1 := r3 v q hv hq
  have b2 := r4 v q hv
  generalize vD k.format.leastPlace s m e' = r at *
  have hB : (0 : Int) < ((2 ^ b : Nat) : Int) := wM b
  have p1 : (R * ((2 ^ b : Nat) : Int)).natAbs = v * 2 ^ q * 2 ^ b := by rw [Int.natAbs_mul, hRv, Int.natAbs_natCast]
  have p2 : 0 ≤ R → 0 ≤ R * ((2 ^ b : Nat) : Int) := fun c => Int.mul_nonneg c (Int.le_of_lt hB)
  have p3 : R < 0 → R * ((2 ^ b : Nat) : Int) < 0 := fun c => Int.mul_neg_of_neg_of_pos c hB
  have p4 : 0 < R → 0 < R * ((2 ^ b : Nat) : Int) := fun c => Int.mul_pos c hB
  generalize R * ((2 ^ b : Nat) : Int) = P at *
  generalize v * 2 ^ q * 2 ^ b = Y at *
  generalize v * 2 ^ q = Z at *
  generalize M * 2 ^ a = X at *
  generalize m * 2 ^ (e' - k.format.leastPlace).toNat = W at *
  cases s with
  | false =>
    have a2 := a2.2 rfl
    have h2 := h2 rfl
    refine ⟨fun c => ?_, fun c => ?_⟩
    · by_cases c2 : 0 ≤ R
      · have := p2 c2
        have := b1 (by omega)
        omega
      · have := p3 (by omega); omega
    · by_cases c2 : 0 ≤ R
      · have := p2 c2
        have := b2 (by omega)
        omega
      · omega
  | true =>
    have a2 := a2.1 rfl
    have h1 := h1 rfl
    refine ⟨fun c => ?_, fun c => ?_⟩
    · by_cases c2 : 0 ≤ R
      · omega
      · have := p3 (by omega)
        have := b2 (by omega)
        omega
    · by_cases c2 : 0 < R
      · have := p4 c2; omega
      · have : P ≤ 0 := by
          by_cases c3 : R = 0
          · subst c3; have : Y = 0 ∨ 0 < Y := Nat.eq_zero_or_pos Y; omega
          · exact Int.le_of_lt (p3 (by omega))
        have := b1 (by omega)
        omega
def Iv (k:FloatKind) (x:Nat) (lo hi:Int):Prop:=∃ r,Vl k x r∧lo≤r∧r≤hi
theorem Vl.iv {k:FloatKind} {x:Nat} {v:Int} (h:Vl k x v):Iv k x v v:=⟨v,h,Int.le_refl _,Int.le_refl _⟩
theorem KE {k:FloatKind} (h:Fmt k.format) {s t:Bool} {m n A:Nat} {i j lo hi:Int} (l1:k.format.leastPlace≤i) (l2:k.format.leastPlace≤j) (hlo:RepZ k.format lo) (hhi:RepZ k.format hi) (c1:lo≤vD k.format.leastPlace s m i+vD k.format.leastPlace t n j) (c2:vD k.format.leastPlace s m i+vD k.format.leastPlace t n j≤hi) (hl:lo.natAbs≤2 ^ A) (hh:hi.natAbs≤2 ^ A) (hA:A+4≤2 ^ k.format.exponentBits):∃ z,((Ieee.Datum.number s m i).sum (.number t n j)).map k.format.write=some z∧Iv k z lo hi:=by
 obtain⟨u,M,c,h1,h2,h3,h4,h5⟩:=sum_num (s:=s) (t:=t) (m:=m) (n:=n) l1 l2;obtain⟨r,w1,w2⟩:=rndZ (b:=0) (a:=(c - k.format.leastPlace).toNat) (e:=c) h u (by omega) (fun hM=>by
  have h6:M*2 ^ (c - k.format.leastPlace).toNat≤2 ^ A:=by
   rw [h3];generalize 2 ^ A=B at *;omega
  have:=Jd hM h6;omega) h3.symm h4 h5
 refine⟨_,by rw [h1];rfl,r,w1,?_,?_⟩
 ·exact (w2 lo hlo).2 (by rw [Nat.pow_zero];omega)
 ·exact (w2 hi hhi).1 (by rw [Nat.pow_zero];omega)
theorem iv_add {k:FloatKind} (h:Fmt k.format) {x y A:Nat} {a b c d lo hi:Int} (hx:Iv k x a b) (hy:Iv k y c d) (hlo:RepZ k.format lo) (hhi:RepZ k.format hi) (c1:lo≤a+c) (c2:b+d≤hi) (hl:lo.natAbs≤2 ^ A) (hh:hi.natAbs≤2 ^ A) (hA:A+4≤2 ^ k.format.exponentBits):Iv k (fop .add k x y) lo hi:=by
 obtain⟨r1,⟨s,m,i,e1,l1,v1⟩,g1,g2⟩:=hx;obtain⟨r2,⟨t,n,j,e2,l2,v2⟩,g3,g4⟩:=hy;obtain⟨z,z1,r,z2,z3⟩:=KE h (s:=s) (t:=t) (m:=m) (n:=n) l1 l2 hlo hhi (by omega) (by omega) hl hh hA;refine⟨r,Xy (z:=z) ?_ z2,z3⟩;show k.format.add x y=some z;unfold Ieee.Format.add;rw [e1,e2];exact z1
theorem Xz {k:FloatKind} (h:Fmt k.format) {x y A:Nat} {a b c d lo hi:Int} (hx:Iv k x a b) (hy:Iv k y c d) (hlo:RepZ k.format lo) (hhi:RepZ k.format hi) (c1:lo≤a - d) (c2:b - c≤hi) (hl:lo.natAbs≤2 ^ A) (hh:hi.natAbs≤2 ^ A) (hA:A+4≤2 ^ k.format.exponentBits):Iv k (fop .sub k x y) lo hi:=by
 obtain⟨r1,⟨s,m,i,e1,l1,v1⟩,g1,g2⟩:=hx;obtain⟨r2,⟨t,n,j,e2,l2,v2⟩,g3,g4⟩:=hy;have hn:=zcj k.format.leastPlace t n j;obtain⟨z,z1,r,z2,z3⟩:=KE h (s:=s) (t:=!t) (m:=m) (n:=n) l1 l2 hlo hhi (by omega) (by omega) hl hh hA;refine⟨r,Xy (z:=z) ?_ z2,z3⟩;show k.format.sub x y=some z;unfold Ieee.Format.sub;rw [e1,e2];exact z1
theorem mul_lin {w r a b lo hi:Int} (h1:a≤r) (h2:r≤b) (l1:lo≤w*a) (l2:lo≤w*b) (u1:w*a≤hi) (u2:w*b≤hi):lo≤w*r∧w*r≤hi:=by
 rcases Int.le_total 0 w with c|c
 ·have:=Int.mul_le_mul_of_nonneg_left h1 c;have:=Int.mul_le_mul_of_nonneg_left h2 c;omega
 ·have:=Int.mul_le_mul_of_nonpos_left c h1;have:=Int.mul_le_mul_of_nonpos_left c h2;omega
open Ieee in
theorem zcn {k:FloatKind} (h:Fmt k.format) {x y A b':Nat} {w a b lo hi:Int} (hb:(b':Int)=- k.format.leastPlace) (hx:Vl k x w) (hy:Iv k y a b) (hlo:RepZ k.format lo) (hhi:RepZ k.format hi) (l1:lo*((2 ^ b':Nat):Int)≤w*a) (l2:lo*((2 ^ b':Nat):Int)≤w*b) (u1:w*a≤hi*((2 ^ b':Nat):Int)) (u2:w*b≤hi*((2 ^ b':Nat):Int)) (hl:lo.natAbs≤2 ^ A) (hh:hi.natAbs≤2 ^ A) (hA:A+4≤2 ^ k.format.exponentBits):Iv k (fop .mul k x y) lo hi:=by
 obtain⟨s,m,i,e1,k1,v1⟩:=hx;obtain⟨r2,⟨t,n,j,e2,k2,v2⟩,g3,g4⟩:=hy;obtain⟨q1,q2⟩:=mul_lin g3 g4 l1 l2 u1 u2;have a1:=kJ k.format.leastPlace s m i;have a2:=kJ k.format.leastPlace t n j;have s1:=jR k.format.leastPlace s m i;have s2:=jR k.format.leastPlace t n j;rw [v1] at a1 s1;rw [v2] at a2 s2;have hS:(w*r2).natAbs=m*n*2 ^ ((i - k.format.leastPlace).toNat+(j - k.format.leastPlace).toNat):=by
  rw [Int.natAbs_mul,a1,a2,Nat.pow_add];ac_rfl
 have hB:=wM b';have hlb:(lo*((2 ^ b':Nat):Int)).natAbs≤2 ^ A*2 ^ b':=by
  rw [Int.natAbs_mul,Int.natAbs_natCast];exact Nat.mul_le_mul_right _ hl
 have hhb:(hi*((2 ^ b':Nat):Int)).natAbs≤2 ^ A*2 ^ b':=by
  rw [Int.natAbs_mul,Int.natAbs_natCast];exact Nat.mul_le_mul_right _ hh
 have hSb:(w*r2).natAbs≤2 ^ (A+b'):=by
  rw [Nat.pow_add];generalize 2 ^ A*2 ^ b'=V at *;generalize lo*((2 ^ b':Nat):Int)=X at *;generalize hi*((2 ^ b':Nat):Int)=Y at *;generalize w*r2=Z at *;omega
 have hs1:(s ^^ t)=true→w*r2≤0:=by
  intro c
  cases s<;>cases t<;>simp only [Bool.xor_self,Bool.false_xor,Bool.xor_false,Bool.true_xor,Bool.not_true,Bool.not_false] at c
  ·cases c
  ·exact Int.mul_nonpos_of_nonneg_of_nonpos (s1.2 rfl) (s2.1 rfl)
  ·exact Int.mul_nonpos_of_nonpos_of_nonneg (s1.1 rfl) (s2.2 rfl)
  ·cases c
 have hs2:(s ^^ t)=false→0≤w*r2:=by
  intro c
  cases s<;>cases t<;>simp only [Bool.xor_self,Bool.false_xor,Bool.xor_false,Bool.true_xor,Bool.not_true,Bool.not_false] at c
  ·exact Int.mul_nonneg (s1.2 rfl) (s2.2 rfl)
  ·cases c
  ·cases c
  ·exact Int.mul_nonneg_of_nonpos_of_nonpos (s1.1 rfl) (s2.1 rfl)
 obtain⟨r,w1,w2⟩:=rndZ (b:=b') (a:=(i - k.format.leastPlace).toNat+(j - k.format.leastPlace).toNat) (e:=i+j) (M:=m*n) h (s ^^ t) (by omega) (fun hM=>by
  have:=Jd hM (Nat.le_trans (Nat.le_of_eq hS.symm) hSb);omega) hS hs1 hs2
 refine⟨r,Xy (z:=k.format.nearest (s ^^ t) (m*n) (i+j)) ?_ w1,(w2 lo hlo).2 q1,(w2 hi hhi).1 q2⟩;show k.format.mul x y=_;unfold Format.mul;rw [e1,e2];rfl
theorem vl_fin {x:Nat} {v:Int} (h:Vl .f32 x v):pFin x=true:=by
 obtain⟨r,z1,z2,z3⟩:=Xz (k:=.f32) (A:=0) fmt1 h.iv h.iv (lo:=0) (hi:=0) ⟨0,0,by decide,by decide,rfl⟩ ⟨0,0,by decide,by decide,rfl⟩ (by omega) (by omega) (by decide) (by decide) (by decide);unfold pFin;rw [zcm z1 (x9 (v:=0) (by decide +kernel))];exact decide_eq_true (by omega)
theorem cz_num {k:FloatKind} {z m:Nat} {s:Bool} {e:Int} (r:k.format.read z=.number s m e):cz k z=z:=by
 unfold cz;rw [show k.decode z=k.format.read z from rfl,r];rfl
open Ieee in
theorem za6 {x m:Nat} {s:Bool} {e:Int} (r:(FloatKind.f32.format).read x=.number s m e) (l:(FloatKind.f32.format).leastPlace≤e):∃ m' e',(FloatKind.f64.format).read (widen x)=.number s m' e'∧(FloatKind.f64.format).leastPlace≤e'∧m'*2 ^ (e' - (FloatKind.f64.format).leastPlace).toNat=m*2 ^ (e+((0:Nat):Int) - (FloatKind.f64.format).leastPlace).toNat:=by
 have hL:(FloatKind.f32.format).leastPlace=-149:=by decide
 have hL2:(FloatKind.f64.format).leastPlace=-1074:=by decide
 have hp:(FloatKind.f64.format).fractionBits=52:=by decide
 have hxb:(FloatKind.f64.format).exponentBits=11:=by decide
 have hr:=Ud (x:=x) r;have hm:m<16777216:=by omega
 have he:e≤200:=by
  rcases hr.2.2 with c|c
  ·omega
  ·have:=Nat.mod_lt x (show 0<2147483648 by decide);omega
 rw [hL] at l;obtain⟨m',e',k1,k2,k3⟩:=YS (f:=FloatKind.f64.format) fmt2 s (M:=m) (M0:=m) (k:=0) (e:=e) (by simp) (by rw [hp];omega) (by rw [hL2];omega) (by rw [hL2,hxb];omega);have hc:cz .f64 ((FloatKind.f64.format).nearest s m e)=(FloatKind.f64.format).nearest s m e:=cz_num k1;have hw:widen x=(FloatKind.f64.format).nearest s m e:=by
  have:qG .f32 x .f64=some ((FloatKind.f64.format).nearest s m e):=by
   unfold qG;rw [if_neg (by decide),show FloatKind.f32.decode x=(FloatKind.f32.format).read x from rfl,r]
   dsimp only
   rw [show FloatKind.f64.decode (FloatKind.encode .f64 (.number s m e))=(FloatKind.f64.format).read ((FloatKind.f64.format).nearest s m e) from rfl,k1];show (if false=true then none else some (cz .f64 ((FloatKind.f64.format).nearest s m e)))=_;rw [if_neg (by decide),hc]
  rw [widen,this];rfl
 rw [hw];exact⟨m',e',k1,k2,k3⟩
open Ieee in
theorem zco {L1 L2 : Int} {s : Bool} {m m' n : Nat} {e e' : Int} (h1 : L1 ≤ e) (hn : L1 - L2 = n) (k3 : m' * 2 ^ (e' - L2).toNat = m * 2 ^ (e + ((0 : Nat) : Int) - L2).toNat) : vD L2 s m' e' = vD L1 s m e * ((2 ^ n : Nat) : Int) := by
  have a1 := kJ L1 s m e
  have a2 := kJ L2 s m' e'
  have s1 := jR L1 s m e
  have s2 := jR L2 s m' e'
  have e2 : m * 2 ^ (e + ((0 : Nat) : Int) - L2).toNat = m * 2 ^ (e - L1).toNat * 2 ^ n := by
    rw [Nat.mul_assoc, ← Nat.pow_add]; congr 2; omega
  rw [k3, e2, ← a1] at a2
  generalize vD L1 s m e = V at *
  generalize vD L2 s m' e' = W at *
  have hP := wM n
  have a3 : (V * ((2 ^ n : Nat) : Int)).natAbs = W.natAbs := by rw [Int.natAbs_mul, a2, Int.natAbs_natCast]
  have p1 : 0 ≤ V → 0 ≤ V * ((2 ^ n : Nat) : Int) := fun c => Int.mul_nonneg c (Int.le_of_lt hP)
  have p2 : V ≤ 0 → V * ((2 ^ n : Nat) : Int) ≤ 0 := fun c => Int.mul_nonpos_of_nonpos_of_nonneg c (Int.le_of_lt hP)
  clear hP a2 k3 e2
  generalize V * ((2 ^ n : Nat) : Int) = Q at *
  cases s with
  | false =>
    have h1 := s1.2 rfl
    have h2 := s2.2 rfl
    have h3 := p1 h1
    omega
  | true =>
    have h1 := s1.1 rfl
    have h2 := s2.1 rfl
    have h3 := p2 h1
    omega
theorem Je {x:Nat} {v:Int} (h:Vl .f32 x v):Vl .f64 (widen x) (v*((2 ^ 925:Nat):Int)):=by
 obtain⟨s,m,e,r,l,rfl⟩:=h;obtain⟨m',e',k1,k2,k3⟩:=za6 r l;exact⟨s,m',e',k1,k2,zco (n:=925) l (by decide) k3⟩
def T (k:Nat):Int:=((2 ^ (135+k):Nat):Int)
theorem T_pos (k:Nat):0<T k:=wM _
def One:Int:=((2 ^ 149:Nat):Int)
theorem One_abs:One.natAbs=2 ^ 149:=by decide +kernel
theorem two22:((2 ^ 22:Nat):Int)=4194304:=by decide +kernel
theorem repT {k:Nat} (hk:k≤60) {q:Int} (h1:-16777216<q) (h2:q<16777216):RepZ (FloatKind.f32.format) (q*T k)∧(q*T k).natAbs≤2 ^ 220:=by
 have hp:(FloatKind.f32.format).fractionBits=23:=by decide
 have hx:(FloatKind.f32.format).exponentBits=8:=by decide
 have e:(q*T k).natAbs=q.natAbs*2 ^ (135+k):=by
  unfold T;rw [Int.natAbs_mul,Int.natAbs_natCast]
 refine⟨⟨q.natAbs,135+k,by rw [hp];omega,by rw [hp,hx];omega,e⟩,?_⟩;rw [e];have h3:q.natAbs≤2 ^ 24:=by omega
 have h4:2 ^ (135+k)≤2 ^ 196:=Nat.pow_le_pow_right (by decide) (by omega);have h5:=Nat.mul_le_mul h3 h4;rw [←Nat.pow_add] at h5;exact h5
theorem grid {k:Nat} (hk:k≤60) {S:Int} (h1:-(8388608*T k)≤S) (h2:S≤8388608*T k):∃ lo hi,(RepZ (FloatKind.f32.format) lo∧lo.natAbs≤2 ^ 220)∧(RepZ (FloatKind.f32.format) hi∧hi.natAbs≤2 ^ 220)∧lo≤S∧S≤hi∧hi=lo+T k:=by
 have hT:=T_pos k;have e1:=Int.mul_ediv_add_emod S (T k);have e2:=Int.emod_nonneg S (show T k≠0 by omega);have e3:=Int.emod_lt_of_pos S hT;have b1:-8388608≤S / T k:=Int.le_ediv_of_mul_le hT (by rw [Int.neg_mul];exact h1);have b2:S / T k≤8388608:=by
  refine Int.le_of_lt_add_one (Int.ediv_lt_of_lt_mul hT ?_);rw [Int.add_mul];omega
 refine⟨S / T k*T k,(S / T k+1)*T k,repT hk (by omega) (by omega),repT hk (by omega) (by omega),?_,?_,?_⟩
 ·rw [Int.mul_comm];omega
 ·rw [Int.add_mul,Int.mul_comm];omega
 ·rw [Int.add_mul];omega
theorem rmul (k:Nat) (hk:k≤60) {x y:Nat} {w a p:Int} (hx:Vl .f32 x w) (hy:Vl .f32 y a) (hp1:p*One≤w*a) (hp2:w*a≤(p+1)*One) (h1:-(8388608*T k)≤p) (h2:p+1≤8388608*T k):∃ r,Vl .f32 (fop .mul .f32 x y) r∧p - T k≤r∧r≤p+1+T k:=by
 have hT:=T_pos k;obtain⟨lo,hi,g1,g2,g3,g4,g5⟩:=grid (S:=p) hk (by omega) (by omega);obtain⟨lo',hi',g1',g2',g3',g4',g5'⟩:=grid (S:=p+1) hk (by omega) (by omega);have hO:(0:Int)≤One:=by decide +kernel
 have m1:=Int.mul_le_mul_of_nonneg_right g3 hO;have m2:=Int.mul_le_mul_of_nonneg_right g4' hO;unfold One at m1 m2 hp1 hp2;obtain⟨r,v,l1,l2⟩:=zcn (k:=.f32) (A:=220) (b':=149) fmt1 (by decide) hx hy.iv g1.1 g2'.1 (by omega) (by omega) (by omega) (by omega) g1.2 g2'.2 (by decide);exact⟨r,v,by omega,by omega⟩
theorem zcp (w:Nat) {v:Int} (h:Vl .f32 w v):Vl .f32 (fneg .f32 w) (-v):=by
 obtain⟨s,m,e,r,l,rfl⟩:=h;have hr:(FloatKind.f32.format).read (fneg .f32 w)=((FloatKind.f32.format).read w).opposite:=zch (by rw [show Ieee.single.read w=(FloatKind.f32.format).read w from rfl,r];rfl);rw [r] at hr;exact⟨!s,m,e,hr,l,zcj _ _ _ _⟩
def w1c:Nat:=cz .f32 1065353216
theorem w1_v:Vl .f32 w1c One:=x9 (by decide +kernel)
theorem scl {q s c:Int} (n:Int) (hn:0≤n) (h:q*c≤s):q*(c*n)≤s*n:=by
 have:=Int.mul_le_mul_of_nonneg_right h hn;rw [Int.mul_assoc] at this;exact this
theorem scl' {q s c:Int} (n:Int) (hn:0≤n) (h:s≤q*c):s*n≤q*(c*n):=by
 have:=Int.mul_le_mul_of_nonneg_right h hn;rw [Int.mul_assoc] at this;exact this
theorem r1 (k:Nat) (hk:k≤60) {y:Nat} {a:Int} (hy:Vl .f32 y a) (h1:-(8388600*T k)≤a) (h2:a≤8388600*T k):∃ r,Vl .f32 (fop .mul .f32 y w1c) r∧a - 2*T k≤r∧r≤a+2*T k:=by
 have hT:=T_pos k;have hn:(0:Int)≤One:=by decide +kernel
 obtain⟨r,v,l1,l2⟩:=rmul k hk (p:=a) hy w1_v (Int.le_refl _) (Int.mul_le_mul_of_nonneg_right (by omega) hn) (by omega) (by omega);exact⟨r,v,by omega,by omega⟩
theorem quo_fin {r s S a B A T O:Int} (hs:0<s) (hB:0<B) (hT:4≤T) (hA:4*A≤T*B) (h1:a*O*B - s*A≤S*s) (h2:S*s≤a*O*B+s*A) (g1:S - (T+1)*B≤r*B) (g2:r*B≤S+(T+1)*B):(r - 2*T)*s≤a*O∧a*O≤(r+2*T)*s:=by
 have k1:=Int.mul_le_mul_of_nonneg_right g1 (Int.le_of_lt hs);have k2:=Int.mul_le_mul_of_nonneg_right g2 (Int.le_of_lt hs);have k3:=Int.mul_le_mul_of_nonneg_right hA (Int.le_of_lt hs);have k4:=Int.mul_le_mul_of_nonneg_right hT (Int.le_of_lt (Int.mul_pos hB hs));rw [Int.sub_mul] at k1;rw [Int.add_mul] at k2;have e1:(T+1)*B*s=T*(B*s)+B*s:=by rw [Int.add_mul,Int.one_mul,Int.add_mul,Int.mul_assoc]
 have e2:4*A*s=4*(s*A):=by rw [Int.mul_assoc,Int.mul_comm A s]
 have e3:T*B*s=T*(B*s):=Int.mul_assoc _ _ _;have e4:r*B*s=r*s*B:=by rw [Int.mul_assoc,Int.mul_comm B s,←Int.mul_assoc]
 rw [e1,e4] at k1 k2;rw [e2,e3] at k3;have f1:(r - 2*T)*s*B=r*s*B - 2*(T*(B*s)):=by
  rw [Int.sub_mul,Int.sub_mul,Int.mul_assoc 2 T s,Int.mul_assoc 2,Int.mul_assoc T s B,Int.mul_comm s B]
 have f2:(r+2*T)*s*B=r*s*B+2*(T*(B*s)):=by
  rw [Int.add_mul,Int.add_mul,Int.mul_assoc 2 T s,Int.mul_assoc 2,Int.mul_assoc T s B,Int.mul_comm s B]
 constructor
 ·refine Int.le_of_mul_le_mul_right (a:=B) ?_ hB;rw [f1];omega
 ·refine Int.le_of_mul_le_mul_right (a:=B) ?_ hB;rw [f2];omega
theorem zea {a s S:Int} {A B:Nat} {sg:Bool} {X' Y' Z':Nat} (hX:(a*One*((2 ^ B:Nat):Int)).natAbs=X') (hY:(S*s).natAbs=Y') (hZ:(s*((2 ^ A:Nat):Int)).natAbs=Z') (m1:Y'≤X'+Z') (m2:X'≤Y'+Z') (c1:sg=false→0≤a∧0≤S) (c2:sg=true→a≤0∧S≤0) (hs:0<s):a*One*((2 ^ B:Nat):Int) - s*((2 ^ A:Nat):Int)≤S*s∧S*s≤a*One*((2 ^ B:Nat):Int)+s*((2 ^ A:Nat):Int):=by
 have hBp:=wM B;have hAp:=wM A;have hOp:(0:Int)<One:=by decide +kernel
 have hz0:0≤s*((2 ^ A:Nat):Int):=Int.mul_nonneg (Int.le_of_lt hs) (Int.le_of_lt hAp);have p1:sg=false→0≤a*One*((2 ^ B:Nat):Int)∧0≤S*s:=fun c=>⟨Int.mul_nonneg (Int.mul_nonneg (c1 c).1 (Int.le_of_lt hOp)) (Int.le_of_lt hBp),Int.mul_nonneg (c1 c).2 (Int.le_of_lt hs)⟩;have p2:sg=true→a*One*((2 ^ B:Nat):Int)≤0∧S*s≤0:=fun c=>⟨Int.mul_nonpos_of_nonpos_of_nonneg (Int.mul_nonpos_of_nonpos_of_nonneg (c2 c).1 (Int.le_of_lt hOp)) (Int.le_of_lt hBp),Int.mul_nonpos_of_nonpos_of_nonneg (c2 c).2 (Int.le_of_lt hs)⟩;generalize a*One*((2 ^ B:Nat):Int)=X at *;generalize S*s=Y at *;generalize s*((2 ^ A:Nat):Int)=Z at *
 cases sg with
 | false=>have:=p1 rfl;omega
 | true=>have:=p2 rfl;omega
def Tf (k:Nat):Int:=((2 ^ (125+k):Nat):Int)
theorem VA (k:Nat):0<Tf k:=wM _
theorem repTf {k:Nat} (hk:k≤60) {q:Int} (h1:-16777216<q) (h2:q<16777216):RepZ (FloatKind.f32.format) (q*Tf k)∧(q*Tf k).natAbs≤2 ^ 220:=by
 have hp:(FloatKind.f32.format).fractionBits=23:=by decide
 have hx:(FloatKind.f32.format).exponentBits=8:=by decide
 have e:(q*Tf k).natAbs=q.natAbs*2 ^ (125+k):=by
  unfold Tf;rw [Int.natAbs_mul,Int.natAbs_natCast]
 refine⟨⟨q.natAbs,125+k,by rw [hp];omega,by rw [hp,hx];omega,e⟩,?_⟩;rw [e];have h3:q.natAbs≤2 ^ 24:=by omega
 have h4:2 ^ (125+k)≤2 ^ 196:=Nat.pow_le_pow_right (by decide) (by omega);have h5:=Nat.mul_le_mul h3 h4;rw [←Nat.pow_add] at h5;exact h5
theorem XW {k:Nat} (hk:k≤60) {S:Int} (h1:-(16777000*Tf k)≤S) (h2:S≤16777000*Tf k):∃ lo hi,(RepZ (FloatKind.f32.format) lo∧lo.natAbs≤2 ^ 220)∧(RepZ (FloatKind.f32.format) hi∧hi.natAbs≤2 ^ 220)∧lo≤S∧S≤hi∧hi=lo+Tf k:=by
 have hT:=VA k;have e1:=Int.mul_ediv_add_emod S (Tf k);have e2:=Int.emod_nonneg S (show Tf k≠0 by omega);have e3:=Int.emod_lt_of_pos S hT;have b1:-16777000≤S / Tf k:=Int.le_ediv_of_mul_le hT (by rw [Int.neg_mul];exact h1);have b2:S / Tf k≤16777000:=by
  refine Int.le_of_lt_add_one (Int.ediv_lt_of_lt_mul hT ?_);rw [Int.add_mul];omega
 refine⟨S / Tf k*Tf k,(S / Tf k+1)*Tf k,repTf hk (by omega) (by omega),repTf hk (by omega) (by omega),?_,?_,?_⟩
 ·rw [Int.mul_comm];omega
 ·rw [Int.add_mul,Int.mul_comm];omega
 ·rw [Int.add_mul];omega
theorem fadd (k:Nat) (hk:k≤60) {x y:Nat} {a b:Int} (hx:Vl .f32 x a) (hy:Vl .f32 y b) (h1:-(16777000*Tf k)≤a+b) (h2:a+b≤16777000*Tf k):∃ r,Vl .f32 (fop .add .f32 x y) r∧a+b - Tf k≤r∧r≤a+b+Tf k:=by
 obtain⟨lo,hi,g1,g2,g3,g4,g5⟩:=XW hk h1 h2;obtain⟨r,v,l1,l2⟩:=iv_add (k:=.f32) (A:=220) fmt1 hx.iv hy.iv g1.1 g2.1 g3 g4 g1.2 g2.2 (by decide);exact⟨r,v,by omega,by omega⟩
theorem fsub (k:Nat) (hk:k≤60) {x y:Nat} {a b:Int} (hx:Vl .f32 x a) (hy:Vl .f32 y b) (h1:-(16777000*Tf k)≤a - b) (h2:a - b≤16777000*Tf k):∃ r,Vl .f32 (fop .sub .f32 x y) r∧a - b - Tf k≤r∧r≤a - b+Tf k:=by
 obtain⟨lo,hi,g1,g2,g3,g4,g5⟩:=XW hk h1 h2;obtain⟨r,v,l1,l2⟩:=Xz (k:=.f32) (A:=220) fmt1 hx.iv hy.iv g1.1 g2.1 g3 g4 g1.2 g2.2 (by decide);exact⟨r,v,by omega,by omega⟩
theorem fmul (k:Nat) (hk:k≤60) {x y:Nat} {w a p:Int} (hx:Vl .f32 x w) (hy:Vl .f32 y a) (hp1:p*One≤w*a) (hp2:w*a≤(p+1)*One) (h1:-(16777000*Tf k)≤p) (h2:p+1≤16777000*Tf k):∃ r,Vl .f32 (fop .mul .f32 x y) r∧p - Tf k≤r∧r≤p+1+Tf k:=by
 have hT:=VA k;obtain⟨lo,hi,g1,g2,g3,g4,g5⟩:=XW (S:=p) hk (by omega) (by omega);obtain⟨lo',hi',g1',g2',g3',g4',g5'⟩:=XW (S:=p+1) hk (by omega) (by omega);have hO:(0:Int)≤One:=by decide +kernel
 have m1:=Int.mul_le_mul_of_nonneg_right g3 hO;have m2:=Int.mul_le_mul_of_nonneg_right g4' hO;unfold One at m1 m2 hp1 hp2;obtain⟨r,v,l1,l2⟩:=zcn (k:=.f32) (A:=220) (b':=149) fmt1 (by decide) hx hy.iv g1.1 g2'.1 (by omega) (by omega) (by omega) (by omega) g1.2 g2'.2 (by decide);exact⟨r,v,by omega,by omega⟩
theorem zcq (k:Nat) (hk:k≤60) {a s S r:Int} {A B:Nat} (hs:0<s) (ha:a.natAbs*2 ^ 149≤2 ^ (147+k)*s.natAbs) (hk1:A≤123+k+B) (h12:a*One*((2 ^ B:Nat):Int) - s*((2 ^ A:Nat):Int)≤S*s∧S*s≤a*One*((2 ^ B:Nat):Int)+s*((2 ^ A:Nat):Int)) (w2:∀ R,RepZ (FloatKind.f32.format) R→(S≤R*((2 ^ B:Nat):Int)→r≤R)∧(R*((2 ^ B:Nat):Int)≤S→R≤r)):(r - 2*Tf k)*s≤a*One∧a*One≤(r+2*Tf k)*s:=by
 have hTp:=VA k;have hT4:(4:Int)≤Tf k:=by
  have:2 ^ 2≤2 ^ (125+k):=Nat.pow_le_pow_right (by decide) (by omega);unfold Tf;omega
 have hBp:=wM B;have hAp:=wM A;have hOp:(0:Int)<One:=by decide +kernel
 have hA4:4*((2 ^ A:Nat):Int)≤Tf k*((2 ^ B:Nat):Int):=by
  have:4*2 ^ A≤2 ^ (125+k)*2 ^ B:=by
   rw [←Nat.pow_add,show 4*2 ^ A=2 ^ (2+A) by rw [Nat.pow_add]];exact Nat.pow_le_pow_right (by decide) (by omega)
  unfold Tf;have h:=Int.ofNat_le.2 this;rw [Int.natCast_mul,Int.natCast_mul] at h;exact h
 have hbig:-(4194304*Tf k*((2 ^ B:Nat):Int)) - ((2 ^ A:Nat):Int)≤S∧S≤4194304*Tf k*((2 ^ B:Nat):Int)+((2 ^ A:Nat):Int):=by
  have e157:((2 ^ (147+k):Nat):Int)=4194304*Tf k:=by
   unfold Tf;rw [show 147+k=22+(125+k) by omega,Nat.pow_add,Int.natCast_mul,two22]
  have hsn:((s.natAbs:Nat):Int)=s:=by omega
  have hao:(a.natAbs:Int)*One≤4194304*Tf k*s:=by
   have h:=Int.ofNat_le.2 ha;rw [Int.natCast_mul,Int.natCast_mul,e157,hsn] at h;exact h
  have hq1:=Int.mul_le_mul_of_nonneg_right hao (Int.le_of_lt hBp);have hq2:a*One*((2 ^ B:Nat):Int)≤(a.natAbs:Int)*One*((2 ^ B:Nat):Int):=Int.mul_le_mul_of_nonneg_right (Int.mul_le_mul_of_nonneg_right (by omega) (Int.le_of_lt hOp)) (Int.le_of_lt hBp);have hq3:-((a.natAbs:Int)*One*((2 ^ B:Nat):Int))≤a*One*((2 ^ B:Nat):Int):=by
   rw [←Int.neg_mul,←Int.neg_mul];exact Int.mul_le_mul_of_nonneg_right (Int.mul_le_mul_of_nonneg_right (by omega) (Int.le_of_lt hOp)) (Int.le_of_lt hBp)
  have e1:4194304*Tf k*s*((2 ^ B:Nat):Int)=4194304*Tf k*((2 ^ B:Nat):Int)*s:=by rw [Int.mul_assoc,Int.mul_comm s,←Int.mul_assoc]
  constructor
  ·refine Int.le_of_mul_le_mul_right (a:=s) ?_ hs;rw [Int.sub_mul,Int.neg_mul,Int.mul_comm ((2 ^ A:Nat):Int) s];omega
  ·refine Int.le_of_mul_le_mul_right (a:=s) ?_ hs;rw [Int.add_mul,Int.mul_comm ((2 ^ A:Nat):Int) s];omega
 have e1:=Int.mul_ediv_add_emod S ((2 ^ B:Nat):Int);have e2:=Int.emod_nonneg S (show ((2 ^ B:Nat):Int)≠0 by omega);have e3:=Int.emod_lt_of_pos S hBp;have b1:-(4194305*Tf k)≤S / ((2 ^ B:Nat):Int):=by
  refine Int.le_ediv_of_mul_le hBp ?_;rw [Int.neg_mul,show (4194305:Int)=4194304+1 by rfl,Int.add_mul,Int.add_mul,Int.one_mul];omega
 have b2:S / ((2 ^ B:Nat):Int)≤4194305*Tf k:=by
  refine Int.le_of_lt_add_one (Int.ediv_lt_of_lt_mul hBp ?_);rw [Int.add_mul,show (4194305:Int)=4194304+1 by rfl,Int.add_mul,Int.add_mul,Int.one_mul];omega
 generalize hpp:S / ((2 ^ B:Nat):Int)=p at *;obtain⟨lo,hi,g1,g2,g3,g4,g5⟩:=XW (S:=p) hk (by omega) (by omega);obtain⟨lo',hi',g1',g2',g3',g4',g5'⟩:=XW (S:=p+1) hk (by omega) (by omega);have q1:=(w2 lo g1.1).2 (by
  have:=Int.mul_le_mul_of_nonneg_right g3 (Int.le_of_lt hBp);rw [Int.mul_comm p] at this;omega)
 have q2:=(w2 hi' g2'.1).1 (by
  have:=Int.mul_le_mul_of_nonneg_right g4' (Int.le_of_lt hBp);rw [Int.add_mul,Int.one_mul,Int.mul_comm p] at this;omega)
 have q3:p - Tf k≤r:=by omega
 have q4:r≤p+1+Tf k:=by omega
 have u1:=Int.mul_le_mul_of_nonneg_right q3 (Int.le_of_lt hBp);have u2:=Int.mul_le_mul_of_nonneg_right q4 (Int.le_of_lt hBp);rw [Int.sub_mul,Int.mul_comm p] at u1;rw [Int.add_mul,Int.add_mul,Int.one_mul,Int.mul_comm p] at u2;refine quo_fin hs hBp hT4 hA4 h12.1 h12.2 ?_ ?_
 ·rw [Int.add_mul,Int.one_mul];omega
 ·rw [Int.add_mul,Int.one_mul];omega
open Ieee in
theorem fquo (k : Nat) (hk : k ≤ 60) {x y : Nat} {a s : Int} (hx : Vl .f32 x a) (hy : Vl .f32 y s) (hs : 0 < s) (ha : a.natAbs * 2 ^ 149 ≤ 2 ^ (147 + k) * s.natAbs) : ∃ r, Vl .f32 (fop .quo .f32 x y) r ∧ (r - 2 * Tf k) * s ≤ a * One ∧ a * One ≤ (r + 2 * Tf k) * s ∧ (0 ≤ a → 0 ≤ r) := by
  obtain ⟨sg, m, i, r1, l1, v1⟩ := hx
  obtain ⟨t, n, j, r2, l2, v2⟩ := hy
  have hL : (FloatKind.f32.format).leastPlace = -149 := by decide
  have hp : (FloatKind.f32.format).fractionBits = 23 := by decide
  have hxb : (FloatKind.f32.format).exponentBits = 8 := by decide
  have a1 := kJ (FloatKind.f32.format).leastPlace sg m i
  have a2 := kJ (FloatKind.f32.format).leastPlace t n j
  have s1 := jR (FloatKind.f32.format).leastPlace sg m i
  have s2 := jR (FloatKind.f32.format).leastPlace t n j
  rw [v1] at a1 s1
  rw [v2] at a2 s2
  rw [hL] at l1 l2 a1 a2
  obtain rfl : t = false := by
    cases t with
    | false => rfl
    | true => have := s2.1 rfl; omega
  have hn : n ≠ 0 := fun c => by rw [c, Nat.zero_mul] at a2; omega
  have hm24 : m < 2 ^ 24 := by have := Ud (x := x) r1; omega
  generalize hmo : 23 + 2 + n.log2 - m.log2 = more
  have hq : floatBits .quo .f32 x y = some ((FloatKind.f32.format).nearest (sg ^^ false) (2 * ((m <<< more) / n) + ((m <<< more) % n != 0).toNat) (i - j - more - 1)) := by
    show (FloatKind.f32.format).div x y = _
    unfold Format.div Datum.quotient
    rw [r1, r2, hp]
    simp only [hn, if_false, hmo]; rfl
  rw [Bool.xor_false] at hq
  have hTp := VA k
  by_cases hm0 : m = 0
  · have ha0 : a = 0 := by rw [hm0, Nat.zero_mul] at a1; omega
    have hM : 2 * ((m <<< more) / n) + ((m <<< more) % n != 0).toNat = 0 := by rw [hm0]; simp
    rw [hM] at hq
    obtain ⟨r, w1, w2⟩ := rndZ (k := .f32) (M := 0) (a := (i - j - more - 1 - -149).toNat) (b := (-149 - (i - j - more - 1)).toNat) (e := i - j - more - 1) (S := 0) fmt1 sg (by rw [hL]; omega) (fun c => absurd rfl c) (by simp) (fun _ => Int.le_refl _) (fun _ => Int.le_refl _)
    have h0 : RepZ (FloatKind.f32.format) 0 := ⟨0, 0, by decide, by decide, rfl⟩
    have g1 := (w2 0 h0).1 (by simp)
    have g2 := (w2 0 h0).2 (by simp)
    obtain rfl : r = 0 := by omega
    refine ⟨0, Xy hq w1, ?_, ?_, fun _ => Int.le_refl _⟩
    · rw [ha0, Int.zero_mul]
      have := Int.mul_pos hTp hs
      rw [Int.zero_sub, Int.neg_mul, Int.mul_assoc]; omega
    · rw [ha0, Int.zero_mul]
      have := Int.mul_pos hTp hs
      rw [Int.zero_add, Int.mul_assoc]; omega
  have hml : m.log2 ≤ 23 := by have := (Nat.log2_lt hm0).2 hm24; omega
  have hmore : (more : Int) = 25 + n.log2 - m.log2 := by omega
  have hlog : m.log2 + (i - -149).toNat + 149 ≤ 147 + k + (n.log2 + 1) + (j - -149).toNat := by
    rw [a1, a2] at ha
    have g1 : 2 ^ m.log2 * 2 ^ (i - -149).toNat * 2 ^ 149 ≤ m * 2 ^ (i - -149).toNat * 2 ^ 149 := Nat.mul_le_mul_right _ (Nat.mul_le_mul_right _ (Nat.log2_self_le hm0))
    have g2 : 2 ^ (147 + k) * (n * 2 ^ (j - -149).toNat) ≤ 2 ^ (147 + k) * (2 ^ (n.log2 + 1) * 2 ^ (j - -149).toNat) := Nat.mul_le_mul_left _ (Nat.mul_le_mul_right _ (Nat.le_of_lt Nat.lt_log2_self))
    rw [← Nat.pow_add, ← Nat.pow_add] at g1
    rw [← Nat.pow_add, ← Nat.pow_add, ← Nat.add_assoc] at g2
    exact (Nat.pow_le_pow_iff_right (a := 2) (by decide)).1 (Nat.le_trans g1 (Nat.le_trans ha g2))
  generalize hD : m <<< more = D at hq
  rw [Nat.shiftLeft_eq] at hD
  have hb : (D % n != 0).toNat ≤ 1 ∧ (D % n = 0 → (D % n != 0).toNat = 0) ∧ (D % n ≠ 0 → (D % n != 0).toNat = 1) := by
    by_cases c : D % n = 0
    · rw [c]; decide
    · have : (D % n != 0) = true := by simpa using c
      rw [this]; exact ⟨by decide, fun h => absurd h c, fun _ => rfl⟩
  have hdm := Nat.div_add_mod D n
  have hlt := Nat.mod_lt D (Nat.pos_of_ne_zero hn)
  generalize (D % n != 0).toNat = b at hq hb
  have hMn : (2 * (D / n) + b) * n ≤ 2 * D + n ∧ 2 * D ≤ (2 * (D / n) + b) * n + n := by
    have e : (2 * (D / n) + b) * n = 2 * (n * (D / n)) + b * n := by rw [Nat.add_mul, Nat.mul_assoc, Nat.mul_comm (D / n)]
    rcases Nat.le_one_iff_eq_zero_or_eq_one.1 hb.1 with c | c
    · rw [e, c, Nat.zero_mul]
      generalize n * (D / n) = q at *
      by_cases c2 : D % n = 0
      · omega
      · have := hb.2.2 c2
        omega
    · rw [e, c, Nat.one_mul]
      generalize n * (D / n) = q at *
      omega
  generalize hMM : 2 * (D / n) + b = M at hq hMn
  generalize hA : (i - j - more - 1 - -149).toNat = A at *
  generalize hBB : (-149 - (i - j - more - 1)).toNat = B at *
  have hsg : ∃ S : Int, S.natAbs = M * 2 ^ A ∧ (sg = true → S ≤ 0) ∧ (sg = false → 0 ≤ S) := by
    cases sg with
    | true => exact ⟨-((M * 2 ^ A : Nat) : Int), by omega, fun _ => by omega, fun c => (by cases c)⟩
    | false => exact ⟨((M * 2 ^ A : Nat) : Int), by omega, fun c => (by cases c), fun _ => by omega⟩
  obtain ⟨S, hS, hS1, hS2⟩ := hsg
  have hk1 : A ≤ 123 + k + B := by omega
  have hw : (2 * D) * 2 ^ (A + (j - -149).toNat) = m * 2 ^ (i - -149).toNat * 2 ^ 149 * 2 ^ B := by
    rw [← hD, show 2 * (m * 2 ^ more) = m * 2 ^ (more + 1) by rw [Nat.pow_succ]; ac_rfl, Nat.mul_assoc, ← Nat.pow_add, Nat.mul_assoc, Nat.mul_assoc, ← Nat.pow_add, ← Nat.pow_add]
    congr 2; omega
  have hX : (a * One * ((2 ^ B : Nat) : Int)).natAbs = 2 * D * 2 ^ (A + (j - -149).toNat) := by
    rw [hw, Int.natAbs_mul, Int.natAbs_mul, a1, Int.natAbs_natCast, One_abs]
  have hY : (S * s).natAbs = M * n * 2 ^ (A + (j - -149).toNat) := by
    rw [Int.natAbs_mul, hS, a2, Nat.pow_add]; ac_rfl
  have hZ : (s * ((2 ^ A : Nat) : Int)).natAbs = n * 2 ^ (A + (j - -149).toNat) := by
    rw [Int.natAbs_mul, a2, Int.natAbs_natCast, Nat.pow_add]; ac_rfl
  have m1 := Nat.mul_le_mul_right (2 ^ (A + (j - -149).toNat)) hMn.1
  have m2 := Nat.mul_le_mul_right (2 ^ (A + (j - -149).toNat)) hMn.2
  rw [Nat.add_mul] at m1 m2
  have hBp := wM B
  have hAp := wM A
  have hOp : (0 : Int) < One := by decide +kernel
  have hz0 : 0 ≤ s * ((2 ^ A : Nat) : Int) := Int.mul_nonneg (Int.le_of_lt hs) (Int.le_of_lt hAp)
  have h12 := zea hX hY hZ m1 m2 (fun c => ⟨s1.2 c, hS2 c⟩) (fun c => ⟨s1.1 c, hS1 c⟩) hs
  obtain ⟨r, w1, w2⟩ := rndZ (k := .f32) (M := M) (a := A) (b := B) (e := i - j - more - 1) (S := S) fmt1 sg (by rw [hL]; omega) (fun hM => by
    rw [hL, hp, hxb]
    have hMl : M.log2 ≤ 28 := by
      have hDl : D < 2 ^ (26 + n.log2) := by
        rw [← hD]
        have : m * 2 ^ more < 2 ^ (m.log2 + 1) * 2 ^ more := Nat.mul_lt_mul_of_pos_right Nat.lt_log2_self (Nat.two_pow_pos _)
        rw [← Nat.pow_add] at this
        rw [show 26 + n.log2 = m.log2 + 1 + more by omega]; exact this
      have hDn : D / n < 2 ^ 26 := by
        refine (Nat.div_lt_iff_lt_mul (Nat.pos_of_ne_zero hn)).2 (Nat.lt_of_lt_of_le hDl ?_)
        rw [Nat.pow_add]
        exact Nat.mul_le_mul_left _ (Nat.log2_self_le hn)
      have : M < 2 ^ 29 := by omega
      have := (Nat.log2_lt hM).2 this
      omega
    omega) hS hS1 hS2
  have hc := zcq k hk hs ha hk1 h12 w2
  refine ⟨r, Xy hq w1, hc.1, hc.2, fun h0 => ?_⟩
  have hS0 : 0 ≤ S := by
    cases sg with
    | false => exact hS2 rfl
    | true =>
      exfalso
      have h1 := s1.1 rfl
      have h2 : m * 2 ^ (i - -149).toNat = 0 := by omega
      rcases Nat.mul_eq_zero.1 h2 with h3 | h3
      · exact hm0 h3
      · have := Nat.two_pow_pos (i - -149).toNat; omega
  exact (w2 0 ⟨0, 0, by decide, by decide, rfl⟩).2 (by rw [Int.zero_mul]; exact hS0)
end Go.Proofs.Ytochgocgmeeppaa.G
namespace Go.Proofs.Ytochgocgmeeppaa.G
open Go Go.Ab
set_option maxRecDepth 100000
set_option maxHeartbeats 1000000
def Lim (V x:Int):Prop:=-V≤x∧x≤V
def SwN (n V:Int):Int→List Int→List Int→List Int→Prop
 | l,p::ps,_::us,o::os=>Lim V (64*o - (n*p+32*l+32*us.headD 0))∧SwN n V o ps us os
 | _,[],[],[]=>True
 | _,_,_,_=>False
def SmN (n V:Int) (ps:List Int):Nat→List Int→List Int→Prop
 | 0,us,os=>us=os
 | k+1,us,os=>∃ v,SwN n V 0 ps us v∧SmN n V ps k v os
def kOf (n:Int):Int:=if n≤2 then 2 else 1
def RsN (n V:Int):Int→List Int→List Int→List Int→Prop
 | l,p::ps,x::us,o::os=>Lim V (kOf n*(n*o) - kOf n*(n*p - 32*(2*x - l - us.headD 0)))∧RsN n V x ps us os
 | _,[],[],[]=>True
 | _,_,_,_=>False
def CoN (V:Int):List Int→List Int→Prop
 | a::b::c::r,o::os=>Lim V (32*o - 8*(a+2*b+c))∧CoN V (c::r) os
 | [_],[]=>True
 | _,_=>False
def ReN (V:Int):Int→List Int→List Int→Prop
 | l,x::r,o::y::os=>Lim V (64*o - 32*(l+x))∧y=x∧ReN V x r os
 | l,[],[o]=>Lim V (64*o - 32*l)
 | _,_,_=>False
def AdN (V:Int):List Int→List Int→List Int→Prop
 | x::a,y::b,o::os=>Lim V (256*o - 256*(x+y))∧AdN V a b os
 | [],[],[]=>True
 | _,_,_=>False
def zs (n:Nat):List Int:=List.replicate n 0
def CyN (V:Int) (a b:Nat):Nat→Int→List Int→List Int→List Int→Prop
 | 0,n,ps,_,os=>∃ x,os=[x]∧Lim V (64*x - n*ps.headD 0)
 | d+1,n,ps,us,os=>∃ o r c e f o2,SmN n V ps a us o∧RsN n V 0 ps o r∧CoN V r c∧CyN V a b d (4*n) c (zs c.length) e∧ReN V 0 e f∧AdN V o f o2∧SmN n V ps b o2 os
def ev:List Int→(Nat→Int)→Int
 | [],_=>0
 | c::cs,X=>c*X 0+ev cs (fun i=>X (i+1))
def fad:List Int→List Int→List Int
 | [],b=>b
 | x::a,[]=>x::a
 | x::a,y::b=>(x+y)::fad a b
def fsc (k:Int) (c:List Int):List Int:=c.map (k*·)
def fun1 (m:Nat) (w:Int):List Int:=List.replicate m 0++[w]
theorem Jf : ∀ (a b : List Int) (X : Nat → Int), ev (fad a b) X = ev a X + ev b X
  | [], b, X => by simp [fad, ev]
  | x :: a, [], X => by simp [fad, ev]
  | x :: a, y :: b, X => by
    rw [fad, ev, ev, ev, Jf a b, Int.add_mul]; omega
theorem zcr (k : Int) : ∀ (c : List Int) (X : Nat → Int), ev (fsc k c) X = k * ev c X
  | [], X => by simp [fsc, ev]
  | x :: c, X => by
    have ih := zcr k c (fun i => X (i + 1))
    rw [show fsc k (x :: c) = (k * x) :: fsc k c from rfl, ev, ev, ih, Int.mul_add, Int.mul_assoc]
theorem Jg : ∀ (m : Nat) (w : Int) (X : Nat → Int), ev (fun1 m w) X = w * X m
  | 0, w, X => by simp [fun1, ev]
  | m + 1, w, X => by
    have ih := Jg m w (fun i => X (i + 1))
    rw [show fun1 (m + 1) w = 0 :: fun1 m w from rfl, ev, ih, Int.zero_mul, Int.zero_add]
theorem Ue : ∀ (c : List Int) (X Y : Nat → Int), (∀ j, j < c.length → X j = Y j) → ev c X = ev c Y
  | [], _, _, _ => rfl
  | x :: c, X, Y, h => by
    rw [ev, ev, h 0 (by simp), Ue c _ (fun i => Y (i + 1)) fun j hj => h (j + 1) (by simp; omega)]
theorem Uf:∀ (a b:List Int),(fad a b).length=max a.length b.length
 | [],b=>by simp [fad]
 | x::a,[]=>by simp [fad]
 | x::a,y::b=>by rw [fad,List.length_cons,Uf a b];simp
theorem fsc_len (k:Int) (c:List Int):(fsc k c).length=c.length:=by simp [fsc]
theorem Jh (m:Nat) (w:Int):(fun1 m w).length=m+1:=by simp [fun1]
def fdv (q:Int):List Int→Option (List Int)
 | []=>some []
 | x::c=>if x % q=0 then (fdv q c).bind fun r=>some (x / q::r) else none
theorem vC {α β:Type} {o:Option α} {f:α→Option β} {b:β} (h:o.bind f=some b):∃ a,o=some a∧f a=some b:=by
 cases o with
 | none=>cases h
 | some a=>exact⟨a,rfl,h⟩
theorem Ji {q : Int} : ∀ {c d : List Int}, fdv q c = some d → (∀ X, ev c X = q * ev d X) ∧ d.length = c.length
  | [], d, h => by
    obtain rfl := Option.some.inj h
    exact ⟨fun X => by simp [ev], rfl⟩
  | x :: c, d, h => by
    rw [fdv] at h
    split at h
    · rename_i hx
      obtain ⟨r, h1, h2⟩ := vC h
      obtain rfl := Option.some.inj h2
      obtain ⟨i1, i2⟩ := Ji h1
      refine ⟨fun X => ?_, by rw [List.length_cons, List.length_cons, i2]⟩
      rw [ev, ev, i1, Int.mul_add, ← Int.mul_assoc, Int.mul_ediv_cancel' (Int.dvd_of_emod_eq_zero hx)]
    · cases h
def Bd (n0:Nat) (E V:Int) (X:Nat→Int):Prop:=(∀ j,j<n0→Lim E (X j))∧∀ j,n0≤j→Lim V (X j)
def J1 (D:Int) (X:Nat→Int) (m:Nat) (F:List Int) (v:Int):Prop:=D*v=ev F X∧F.length≤m
def JF (D:Int) (X:Nat→Int) (m:Nat):List (List Int)→List Int→Prop
 | F::Fs,v::vs=>J1 D X m F v∧JF D X m Fs vs
 | [],[]=>True
 | _,_=>False
def Ex (X Y:Nat→Int) (m:Nat):Prop:=∀ j,j<m→X j=Y j
theorem Ex.refl (X:Nat→Int) (m:Nat):Ex X X m:=fun _ _=>rfl
theorem Ex.trans {X Y Z:Nat→Int} {m m':Nat} (h:Ex X Y m) (k:Ex Y Z m') (hm:m≤m'):Ex X Z m:=fun j hj=>(h j hj).trans (k j (by omega))
theorem J1.ext {D:Int} {X Y:Nat→Int} {m m':Nat} {F:List Int} {v:Int} (h:J1 D X m F v) (e:Ex X Y m) (hm:m≤m'):J1 D Y m' F v:=⟨h.1.trans (Ue F X Y fun j hj=>e j (by have:=h.2;omega)),by have:=h.2;omega⟩
theorem JF.ext {D:Int} {X Y:Nat→Int} {m m':Nat}:∀ {Fs:List (List Int)} {vs:List Int},JF D X m Fs vs→Ex X Y m→m≤m'→JF D Y m' Fs vs
 | [],[],_,_,_=>trivial
 | _::_,_::_,h,e,hm=>⟨h.1.ext e hm,JF.ext h.2 e hm⟩
theorem JF.head {D:Int} {X:Nat→Int} {m:Nat}:∀ {Fs:List (List Int)} {vs:List Int},JF D X m Fs vs→J1 D X m (Fs.headD []) (vs.headD 0)
 | [],[],_=>⟨by simp [ev],Nat.zero_le _⟩
 | _::_,_::_,h=>h.1
theorem J1.zero (D:Int) (X:Nat→Int) (m:Nat):J1 D X m [] 0:=⟨by simp [ev],Nat.zero_le _⟩
theorem J1.add {D:Int} {X:Nat→Int} {m:Nat} {F G:List Int} {v w:Int} (h:J1 D X m F v) (k:J1 D X m G w):J1 D X m (fad F G) (v+w):=⟨by rw [Jf,Int.mul_add,h.1,k.1],by rw [Uf];have:=h.2;have:=k.2;omega⟩
theorem J1.sc {D:Int} {X:Nat→Int} {m:Nat} {F:List Int} {v:Int} (c:Int) (h:J1 D X m F v):J1 D X m (fsc c F) (c*v):=⟨by rw [zcr,←h.1,←Int.mul_assoc,Int.mul_comm D,Int.mul_assoc],by rw [fsc_len];exact h.2⟩
theorem step1 {D q V E:Int} {n0 m:Nat} {X:Nat→Int} {g F:List Int} {rhs o:Int} (hb:Bd n0 E V X) (hm:n0≤m) (hg:J1 D X m g rhs) (hl:Lim V (q*o - rhs)) (hd:fdv q (fad g (fun1 m D))=some F) (hq:0<q) :
  ∃ Y,Ex X Y m∧Bd n0 E V Y∧J1 D Y (m+1) F o:=by
 refine⟨fun j=>if j=m then q*o - rhs else X j,fun j hj=>by simp;omega,⟨fun j hj=>?_,fun j hj=>?_⟩,?_,?_⟩
 ·have:¬j=m:=by omega
  simp only [this,if_false];exact hb.1 j hj
 ·by_cases c:j=m
  ·simp only [c,if_true];exact hl
  ·simp only [c,if_false];exact hb.2 j hj
 ·obtain⟨e1,_⟩:=Ji hd;have e2:=e1 (fun j=>if j=m then q*o - rhs else X j);rw [Jf,Jg,←Ue g X _ (fun j hj=>by have:=hg.2;simp;omega),←hg.1] at e2;simp only [if_true] at e2;refine Int.eq_of_mul_eq_mul_left (show q≠0 by omega) ?_;rw [←e2,←Int.mul_add,show rhs+(q*o - rhs)=q*o by omega,←Int.mul_assoc,←Int.mul_assoc,Int.mul_comm D q]
 ·rw [(Ji hd).2,Uf,Jh];have:=hg.2;omega
abbrev Fm:=List Int
def swF (D n:Int):Nat→Fm→List Fm→List Fm→Option (List Fm × Nat)
 | m,l,p::ps,_::us=>(fdv 64 (fad (fad (fsc n p) (fad (fsc 32 l) (fsc 32 (us.headD [])))) (fun1 m D))).bind fun F=>(swF D n (m+1) F ps us).bind fun r=>some (F::r.1,r.2)
 | m,_,[],[]=>some ([],m)
 | _,_,_,_=>none
theorem zcs {D n V E : Int} {n0 : Nat} : ∀ (Us Ps : List Fm) (us ps os : List Int) (m : Nat) (L : Fm) (l : Int) (X : Nat → Int) (Os : List Fm) (m' : Nat), swF D n m L Ps Us = some (Os, m') → n0 ≤ m → Bd n0 E V X → J1 D X m L l → JF D X m Ps ps → JF D X m Us us → SwN n V l ps us os →
    ∃ Y, Ex X Y m ∧ Bd n0 E V Y ∧ JF D Y m' Os os ∧ m ≤ m'
  | [], [], [], [], [], m, L, l, X, Os, m', h, hm, hb, hL, hP, hU, hs => by
    obtain ⟨rfl, rfl⟩ := Prod.mk.inj (Option.some.inj h)
    exact ⟨X, Ex.refl _ _, hb, trivial, Nat.le_refl _⟩
  | U :: Us, P :: Ps, u :: us, p :: ps, o :: os, m, L, l, X, Os, m', h, hm, hb, hL, hP, hU, hs => by
    rw [swF] at h
    obtain ⟨F, h1, h2⟩ := vC h
    obtain ⟨r, h3, h4⟩ := vC h2
    obtain ⟨rfl, rfl⟩ := Prod.mk.inj (Option.some.inj h4)
    obtain ⟨Y, y1, y2, y3⟩ := step1 hb hm ((hP.1.sc n).add ((hL.sc 32).add (hU.2.head.sc 32))) (by rw [← Int.add_assoc]; exact hs.1) h1 (by decide)
    obtain ⟨Z, z1, z2, z3, z4⟩ := zcs Us Ps us ps os (m + 1) F o Y r.1 r.2 h3 (by omega) y2 y3 (hP.2.ext y1 (by omega)) (hU.2.ext y1 (by omega)) hs.2
    exact ⟨Z, y1.trans z1 (by omega), z2, ⟨y3.ext z1 z4, z3⟩, by omega⟩
  | [], [], [], [], _ :: _, _, _, _, _, _, _, _, _, _, _, _, _, hs => hs.elim
  | _ :: _, _ :: _, _ :: _, _ :: _, [], _, _, _, _, _, _, _, _, _, _, _, _, hs => hs.elim
  | [], _ :: _, _, _, _, _, _, _, _, _, _, h, _, _, _, _, _, _ => by cases h
  | _ :: _, [], _, _, _, _, _, _, _, _, _, h, _, _, _, _, _, _ => by cases h
def smF (D n:Int) (Ps:List Fm):Nat→Nat→List Fm→Option (List Fm × Nat)
 | 0,m,Us=>some (Us,m)
 | k+1,m,Us=>(swF D n m [] Ps Us).bind fun r=>smF D n Ps k r.2 r.1
theorem Jj {D n V E : Int} {n0 : Nat} {Ps : List Fm} {ps : List Int} : ∀ (k : Nat) (Us : List Fm) (us os : List Int) (m : Nat) (X : Nat → Int) (Os : List Fm) (m' : Nat), smF D n Ps k m Us = some (Os, m') → n0 ≤ m → Bd n0 E V X → JF D X m Ps ps → JF D X m Us us → SmN n V ps k us os →
    ∃ Y, Ex X Y m ∧ Bd n0 E V Y ∧ JF D Y m' Os os ∧ m ≤ m'
  | 0, Us, us, os, m, X, Os, m', h, hm, hb, hP, hU, hs => by
    obtain ⟨rfl, rfl⟩ := Prod.mk.inj (Option.some.inj h)
    obtain rfl := (show us = os from hs)
    exact ⟨X, Ex.refl _ _, hb, hU, Nat.le_refl _⟩
  | k + 1, Us, us, os, m, X, Os, m', h, hm, hb, hP, hU, ⟨v, hs1, hs2⟩ => by
    rw [smF] at h
    obtain ⟨r, h1, h2⟩ := vC h
    obtain ⟨Y, y1, y2, y3, y4⟩ := zcs Us Ps us ps v m [] 0 X r.1 r.2 h1 hm hb (J1.zero _ _ _) hP hU hs1
    obtain ⟨Z, z1, z2, z3, z4⟩ := Jj k r.1 v os r.2 Y Os m' h2 (by omega) y2 (hP.ext y1 y4) y3 hs2
    exact ⟨Z, y1.trans z1 y4, z2, z3, by omega⟩
def rsF (D n:Int):Nat→Fm→List Fm→List Fm→Option (List Fm × Nat)
 | m,l,p::ps,x::us=>(fdv (kOf n*n) (fad (fad (fsc (kOf n*n) p) (fad (fsc (kOf n*-64) x) (fad (fsc (kOf n*32) l) (fsc (kOf n*32) (us.headD []))))) (fun1 m D))).bind fun F=>(rsF D n (m+1) x ps us).bind fun r=>some (F::r.1,r.2)
 | m,_,[],[]=>some ([],m)
 | _,_,_,_=>none
theorem kOf_pos (n:Int):0<kOf n:=by unfold kOf;split<;>decide
theorem Jk {D n V E : Int} {n0 : Nat} (hn : 0 < n) : ∀ (Us Ps : List Fm) (us ps os : List Int) (m : Nat) (L : Fm) (l : Int) (X : Nat → Int) (Os : List Fm) (m' : Nat), rsF D n m L Ps Us = some (Os, m') → n0 ≤ m → Bd n0 E V X → J1 D X m L l → JF D X m Ps ps → JF D X m Us us → RsN n V l ps us os →
    ∃ Y, Ex X Y m ∧ Bd n0 E V Y ∧ JF D Y m' Os os ∧ m ≤ m'
  | [], [], [], [], [], m, L, l, X, Os, m', h, hm, hb, hL, hP, hU, hs => by
    obtain ⟨rfl, rfl⟩ := Prod.mk.inj (Option.some.inj h)
    exact ⟨X, Ex.refl _ _, hb, trivial, Nat.le_refl _⟩
  | U :: Us, P :: Ps, u :: us, p :: ps, o :: os, m, L, l, X, Os, m', h, hm, hb, hL, hP, hU, hs => by
    rw [rsF] at h
    obtain ⟨F, h1, h2⟩ := vC h
    obtain ⟨r, h3, h4⟩ := vC h2
    obtain ⟨rfl, rfl⟩ := Prod.mk.inj (Option.some.inj h4)
    obtain ⟨Y, y1, y2, y3⟩ := step1 (o := o) hb hm ((hP.1.sc (kOf n * n)).add ((hU.1.sc (kOf n * -64)).add ((hL.sc (kOf n * 32)).add (hU.2.head.sc (kOf n * 32))))) (by
      have e : kOf n * n * p + (kOf n * -64 * u + (kOf n * 32 * l + kOf n * 32 * us.headD 0)) = kOf n * (n * p - 32 * (2 * u - l - us.headD 0)) := by
        rw [Int.mul_assoc, Int.mul_assoc, Int.mul_assoc, Int.mul_assoc, ← Int.mul_add, ← Int.mul_add, ← Int.mul_add]
        congr 1; omega
      rw [e, Int.mul_assoc]; exact hs.1) h1 (Int.mul_pos (kOf_pos n) hn)
    obtain ⟨Z, z1, z2, z3, z4⟩ := Jk hn Us Ps us ps os (m + 1) U u Y r.1 r.2 h3 (by omega) y2 (hU.1.ext y1 (by omega)) (hP.2.ext y1 (by omega)) (hU.2.ext y1 (by omega)) hs.2
    exact ⟨Z, y1.trans z1 (by omega), z2, ⟨y3.ext z1 z4, z3⟩, by omega⟩
  | [], [], [], [], _ :: _, _, _, _, _, _, _, _, _, _, _, _, _, hs => hs.elim
  | _ :: _, _ :: _, _ :: _, _ :: _, [], _, _, _, _, _, _, _, _, _, _, _, _, hs => hs.elim
  | [], _ :: _, _, _, _, _, _, _, _, _, _, h, _, _, _, _, _, _ => by cases h
  | _ :: _, [], _, _, _, _, _, _, _, _, _, h, _, _, _, _, _, _ => by cases h
def coF (D:Int):Nat→List Fm→Option (List Fm × Nat)
 | m,a::b::c::us=>(fdv 32 (fad (fad (fsc 8 a) (fad (fsc 16 b) (fsc 8 c))) (fun1 m D))).bind fun F=>(coF D (m+1) (c::us)).bind fun r=>some (F::r.1,r.2)
 | m,[_]=>some ([],m)
 | _,_=>none
theorem zct {D V E : Int} {n0 : Nat} : ∀ (Us : List Fm) (us os : List Int) (m : Nat) (X : Nat → Int) (Os : List Fm) (m' : Nat), coF D m Us = some (Os, m') → n0 ≤ m → Bd n0 E V X → JF D X m Us us → CoN V us os →
    ∃ Y, Ex X Y m ∧ Bd n0 E V Y ∧ JF D Y m' Os os ∧ m ≤ m'
  | [_], [_], [], m, X, Os, m', h, hm, hb, hU, hs => by
    obtain ⟨rfl, rfl⟩ := Prod.mk.inj (Option.some.inj h)
    exact ⟨X, Ex.refl _ _, hb, trivial, Nat.le_refl _⟩
  | A :: B :: C :: Us, a :: b :: c :: us, o :: os, m, X, Os, m', h, hm, hb, hU, hs => by
    rw [coF] at h
    obtain ⟨F, h1, h2⟩ := vC h
    obtain ⟨r, h3, h4⟩ := vC h2
    obtain ⟨rfl, rfl⟩ := Prod.mk.inj (Option.some.inj h4)
    obtain ⟨Y, y1, y2, y3⟩ := step1 (o := o) hb hm ((hU.1.sc 8).add ((hU.2.1.sc 16).add (hU.2.2.1.sc 8))) (by
      rw [show 8 * a + (16 * b + 8 * c) = 8 * (a + 2 * b + c) by omega]; exact hs.1) h1 (by decide)
    obtain ⟨Z, z1, z2, z3, z4⟩ := zct (C :: Us) (c :: us) os (m + 1) Y r.1 r.2 h3 (by omega) y2 (hU.2.2.ext y1 (by omega)) hs.2
    exact ⟨Z, y1.trans z1 (by omega), z2, ⟨y3.ext z1 z4, z3⟩, by omega⟩
  | [], _, _, _, _, _, _, h, _, _, _, _ => by cases h
  | [_, _], _, _, _, _, _, _, h, _, _, _, _ => by cases h
  | [_], [], _, _, _, _, _, _, _, _, hU, _ => hU.elim
  | [_], _ :: _ :: _, _, _, _, _, _, _, _, _, hU, _ => hU.2.elim
  | [_], [_], _ :: _, _, _, _, _, _, _, _, _, hs => hs.elim
  | _ :: _ :: _ :: _, [], _, _, _, _, _, _, _, _, hU, _ => hU.elim
  | _ :: _ :: _ :: _, [_], _, _, _, _, _, _, _, _, hU, _ => hU.2.elim
  | _ :: _ :: _ :: _, [_, _], _, _, _, _, _, _, _, _, hU, _ => hU.2.2.elim
  | _ :: _ :: _ :: _, _ :: _ :: _ :: _, [], _, _, _, _, _, _, _, _, hs => hs.elim
def reF (D:Int):Nat→Fm→List Fm→Option (List Fm × Nat)
 | m,l,x::us=>(fdv 64 (fad (fad (fsc 32 l) (fsc 32 x)) (fun1 m D))).bind fun F=>(reF D (m+1) x us).bind fun r=>some (F::x::r.1,r.2)
 | m,l,[]=>(fdv 64 (fad (fsc 32 l) (fun1 m D))).bind fun F=>some ([F],m+1)
theorem zcu {D V E : Int} {n0 : Nat} : ∀ (Us : List Fm) (us os : List Int) (m : Nat) (L : Fm) (l : Int) (X : Nat → Int) (Os : List Fm) (m' : Nat), reF D m L Us = some (Os, m') → n0 ≤ m → Bd n0 E V X → J1 D X m L l → JF D X m Us us → ReN V l us os →
    ∃ Y, Ex X Y m ∧ Bd n0 E V Y ∧ JF D Y m' Os os ∧ m ≤ m'
  | [], [], [o], m, L, l, X, Os, m', h, hm, hb, hL, hU, hs => by
    rw [reF] at h
    obtain ⟨F, h1, h2⟩ := vC h
    obtain ⟨rfl, rfl⟩ := Prod.mk.inj (Option.some.inj h2)
    obtain ⟨Y, y1, y2, y3⟩ := step1 (o := o) hb hm (hL.sc 32) hs h1 (by decide)
    exact ⟨Y, y1, y2, ⟨y3, trivial⟩, by omega⟩
  | U :: Us, u :: us, o :: y :: os, m, L, l, X, Os, m', h, hm, hb, hL, hU, ⟨k1, k2, k3⟩ => by
    subst k2
    rw [reF] at h
    obtain ⟨F, h1, h2⟩ := vC h
    obtain ⟨r, h3, h4⟩ := vC h2
    obtain ⟨rfl, rfl⟩ := Prod.mk.inj (Option.some.inj h4)
    obtain ⟨Y, y1, y2, y3⟩ := step1 (o := o) hb hm ((hL.sc 32).add (hU.1.sc 32)) (by rw [← Int.mul_add]; exact k1) h1 (by decide)
    obtain ⟨Z, z1, z2, z3, z4⟩ := zcu Us us os (m + 1) U y Y r.1 r.2 h3 (by omega) y2 (hU.1.ext y1 (by omega)) (hU.2.ext y1 (by omega)) k3
    exact ⟨Z, y1.trans z1 (by omega), z2, ⟨y3.ext z1 z4, (hU.1.ext y1 (by omega)).ext z1 z4, z3⟩, by omega⟩
  | [], [], [], _, _, _, _, _, _, _, _, _, _, _, hs => hs.elim
  | [], [], _ :: _ :: _, _, _, _, _, _, _, _, _, _, _, _, hs => hs.elim
  | [], _ :: _, _, _, _, _, _, _, _, _, _, _, _, hU, _ => hU.elim
  | _ :: _, [], _, _, _, _, _, _, _, _, _, _, _, hU, _ => hU.elim
  | _ :: _, _ :: _, [], _, _, _, _, _, _, _, _, _, _, _, hs => hs.elim
  | _ :: _, _ :: _, [_], _, _, _, _, _, _, _, _, _, _, _, hs => hs.elim
def adF (D:Int):Nat→List Fm→List Fm→Option (List Fm × Nat)
 | m,x::a,y::b=>(fdv 256 (fad (fad (fsc 256 x) (fsc 256 y)) (fun1 m D))).bind fun F=>(adF D (m+1) a b).bind fun r=>some (F::r.1,r.2)
 | m,[],[]=>some ([],m)
 | _,_,_=>none
theorem zcv {D V E : Int} {n0 : Nat} : ∀ (Us Ps : List Fm) (us ps os : List Int) (m : Nat) (X : Nat → Int) (Os : List Fm) (m' : Nat), adF D m Us Ps = some (Os, m') → n0 ≤ m → Bd n0 E V X → JF D X m Us us → JF D X m Ps ps → AdN V us ps os →
    ∃ Y, Ex X Y m ∧ Bd n0 E V Y ∧ JF D Y m' Os os ∧ m ≤ m'
  | [], [], [], [], [], m, X, Os, m', h, hm, hb, hU, hP, hs => by
    obtain ⟨rfl, rfl⟩ := Prod.mk.inj (Option.some.inj h)
    exact ⟨X, Ex.refl _ _, hb, trivial, Nat.le_refl _⟩
  | U :: Us, P :: Ps, u :: us, p :: ps, o :: os, m, X, Os, m', h, hm, hb, hU, hP, hs => by
    rw [adF] at h
    obtain ⟨F, h1, h2⟩ := vC h
    obtain ⟨r, h3, h4⟩ := vC h2
    obtain ⟨rfl, rfl⟩ := Prod.mk.inj (Option.some.inj h4)
    obtain ⟨Y, y1, y2, y3⟩ := step1 (o := o) hb hm ((hU.1.sc 256).add (hP.1.sc 256)) (by rw [← Int.mul_add]; exact hs.1) h1 (by decide)
    obtain ⟨Z, z1, z2, z3, z4⟩ := zcv Us Ps us ps os (m + 1) Y r.1 r.2 h3 (by omega) y2 (hU.2.ext y1 (by omega)) (hP.2.ext y1 (by omega)) hs.2
    exact ⟨Z, y1.trans z1 (by omega), z2, ⟨y3.ext z1 z4, z3⟩, by omega⟩
  | [], [], [], [], _ :: _, _, _, _, _, _, _, _, _, _, hs => hs.elim
  | _ :: _, _ :: _, _ :: _, _ :: _, [], _, _, _, _, _, _, _, _, _, hs => hs.elim
  | [], _ :: _, _, _, _, _, _, _, _, h, _, _, _, _, _ => by cases h
  | _ :: _, [], _, _, _, _, _, _, _, h, _, _, _, _, _ => by cases h
theorem JF.len {D:Int} {X:Nat→Int} {m:Nat}:∀ {Fs:List Fm} {vs:List Int},JF D X m Fs vs→Fs.length=vs.length
 | [],[],_=>rfl
 | _::_,_::_,h=>by rw [List.length_cons,List.length_cons,JF.len h.2]
theorem JF.zeros {D:Int} {X:Nat→Int} {m:Nat}:∀ k,JF D X m (List.replicate k []) (zs k)
 | 0=>trivial
 | k+1=>⟨J1.zero _ _ _,JF.zeros k⟩
def cyF (D:Int) (a b:Nat):Nat→Int→Nat→List Fm→List Fm→Option (List Fm × Nat)
 | 0,n,m,ps,_=>(fdv 64 (fad (fsc n (ps.headD [])) (fun1 m D))).bind fun F=>some ([F],m+1)
 | d+1,n,m,ps,us=>(smF D n ps a m us).bind fun o=>(rsF D n o.2 [] ps o.1).bind fun r=>(coF D r.2 r.1).bind fun c=>(cyF D a b d (4*n) c.2 c.1 (List.replicate c.1.length [])).bind fun e=>(reF D e.2 [] e.1).bind fun f=>(adF D f.2 o.1 f.1).bind fun o2=>smF D n ps b o2.2 o2.1
theorem zcw {D V E : Int} {n0 a b : Nat} : ∀ (d : Nat) (n : Int) (Us Ps : List Fm) (us ps os : List Int) (m : Nat) (X : Nat → Int) (Os : List Fm) (m' : Nat), 0 < n → cyF D a b d n m Ps Us = some (Os, m') → n0 ≤ m → Bd n0 E V X → JF D X m Ps ps → JF D X m Us us → CyN V a b d n ps us os →
    ∃ Y, Ex X Y m ∧ Bd n0 E V Y ∧ JF D Y m' Os os ∧ m ≤ m'
  | 0, n, Us, Ps, us, ps, os, m, X, Os, m', hn, h, hm, hb, hP, hU, ⟨x, e, hx⟩ => by
    subst e
    rw [cyF] at h
    obtain ⟨F, h1, h2⟩ := vC h
    obtain ⟨rfl, rfl⟩ := Prod.mk.inj (Option.some.inj h2)
    obtain ⟨Y, y1, y2, y3⟩ := step1 (o := x) hb hm (hP.head.sc n) hx h1 (by decide)
    exact ⟨Y, y1, y2, ⟨y3, trivial⟩, by omega⟩
  | d + 1, n, Us, Ps, us, ps, os, m, X, Os, m', hn, h, hm, hb, hP, hU, ⟨o, r, c, e, f, o2, k1, k2, k3, k4, k5, k6, k7⟩ => by
    rw [cyF] at h
    obtain ⟨O, h1, h⟩ := vC h
    obtain ⟨R, h2, h⟩ := vC h
    obtain ⟨C, h3, h⟩ := vC h
    obtain ⟨G, h4, h⟩ := vC h
    obtain ⟨F, h5, h⟩ := vC h
    obtain ⟨O2, h6, h7⟩ := vC h
    obtain ⟨Y1, a1, b1, c1, d1⟩ := Jj a Us us o m X O.1 O.2 h1 hm hb hP hU k1
    obtain ⟨Y2, a2, b2, c2, d2⟩ := Jk hn O.1 Ps o ps r O.2 [] 0 Y1 R.1 R.2 h2 (by omega) b1 (J1.zero _ _ _) (hP.ext a1 d1) c1 k2
    obtain ⟨Y3, a3, b3, c3, d3⟩ := zct R.1 r c R.2 Y2 C.1 C.2 h3 (by omega) b2 c2 k3
    obtain ⟨Y4, a4, b4, c4, d4⟩ := zcw d (4 * n) (List.replicate C.1.length []) C.1 (zs c.length) c e C.2 Y3 G.1 G.2 (by omega) h4 (by omega) b3 c3 (by rw [c3.len]; exact JF.zeros _) k4
    obtain ⟨Y5, a5, b5, c5, d5⟩ := zcu G.1 e f G.2 [] 0 Y4 F.1 F.2 h5 (by omega) b4 (J1.zero _ _ _) c4 k5
    have x25 : Ex Y1 Y5 O.2 := (a2.trans a3 d2).trans (a4.trans a5 d4) (by omega)
    obtain ⟨Y6, a6, b6, c6, d6⟩ := zcv O.1 F.1 o f o2 F.2 Y5 O2.1 O2.2 h6 (by omega) b5 (c1.ext x25 (by omega)) c5 k6
    have x16 : Ex X Y6 m := a1.trans (x25.trans a6 (by omega)) d1
    obtain ⟨Y7, a7, b7, c7, d7⟩ := Jj b O2.1 o2 os O2.2 Y6 Os m' h7 (by omega) b6 (hP.ext x16 (by omega)) c6 k7
    exact ⟨Y7, x16.trans a7 (by omega), b7, c7, by omega⟩
def nAB:Nat→List Int→Nat × Nat
 | _,[]=>(0,0)
 | 0,c::cs=>((nAB 0 cs).1,(nAB 0 cs).2+c.natAbs)
 | n+1,c::cs=>((nAB n cs).1+c.natAbs,(nAB n cs).2)
theorem KF {c x M:Int} (h:Lim M x):Lim (c.natAbs*M) (c*x):=by
 unfold Lim at *;have h1:x.natAbs≤M.natAbs:=by omega
 have h0:0≤M:=by omega
 have h2:=Nat.mul_le_mul_left c.natAbs h1;rw [←Int.natAbs_mul] at h2;have h3:(c.natAbs:Int)*M=((c.natAbs*M.natAbs:Nat):Int):=by rw [Int.natCast_mul];congr 1;omega
 rw [h3];omega
theorem ev_le {E V : Int} : ∀ (F : List Int) (n0 : Nat) (X : Nat → Int), Bd n0 E V X → Lim ((nAB n0 F).1 * E + (nAB n0 F).2 * V) (ev F X)
  | [], n0, X, _ => by
    have : nAB n0 [] = (0, 0) := by cases n0 <;> rfl
    rw [this, ev]; simp [Lim]
  | c :: F, 0, X, h => by
    have ih := ev_le (E := E) F 0 (fun i => X (i + 1)) ⟨fun j hj => absurd hj (by omega), fun j _ => h.2 (j + 1) (by omega)⟩
    have h1 := KF (c := c) (h.2 0 (by omega))
    rw [ev, nAB]
    unfold Lim at *
    simp only [Int.natCast_add, Int.add_mul]
    omega
  | c :: F, n + 1, X, h => by
    have ih := ev_le (E := E) F n (fun i => X (i + 1)) ⟨fun j hj => h.1 (j + 1) (by omega), fun j hj => h.2 (j + 1) (by omega)⟩
    have h1 := KF (c := c) (h.1 0 (by omega))
    rw [ev, nAB]
    unfold Lim at *
    simp only [Int.natCast_add, Int.add_mul]
    omega
def bndB (n0 A B:Nat) (Fs:List Fm):Bool:=Fs.all fun F=>decide ((nAB n0 F).1≤A)&&decide ((nAB n0 F).2≤B)
theorem Jl {D E V : Int} {n0 A B m : Nat} {X : Nat → Int} (hb : Bd n0 E V X) (hE : 0 ≤ E) (hV : 0 ≤ V) : ∀ {Fs : List Fm} {vs : List Int}, bndB n0 A B Fs = true → JF D X m Fs vs → ∀ v ∈ vs, Lim (A * E + B * V) (D * v)
  | [], [], _, _ => fun v hv => by cases hv
  | F :: Fs, v :: vs, h, hj => by
    unfold bndB at h
    rw [List.all_cons, Bool.and_eq_true, Bool.and_eq_true, decide_eq_true_eq, decide_eq_true_eq] at h
    intro w hw
    rcases List.mem_cons.1 hw with rfl | hw
    · have h1 := ev_le F n0 X hb
      rw [← hj.1.1] at h1
      have h2 := Int.mul_le_mul_of_nonneg_right (Int.ofNat_le.2 h.1.1) hE
      have h3 := Int.mul_le_mul_of_nonneg_right (Int.ofNat_le.2 h.1.2) hV
      unfold Lim at *
      omega
    · exact Jl hb hE hV h.2 hj.2 w hw
def DD:Int:=18446744073709551616
def ones (n0:Nat):List Fm:=(List.range n0).map fun i=>fun1 i DD
def mgB (d a b n0 A B A' B' : Nat) : Bool := match cyF DD a b d 2 n0 (List.replicate n0 []) (ones n0) with
  | some (os, m) => bndB n0 A B os && (match rsF DD 2 m [] (List.replicate n0 []) os with
    | some (rs, _) => bndB n0 A' B' rs
    | none => false)
  | none => false
theorem ones_ok {es : List Int} {X : Nat → Int} (h : ∀ j, j < es.length → X j = es.getD j 0) : JF DD X es.length (ones es.length) es := by
  have key : ∀ (r p : List Int), p ++ r = es → JF DD X es.length ((List.range' p.length r.length).map fun i => fun1 i DD) r := by
    intro r
    induction r with
    | nil => intro p _; exact trivial
    | cons x r ih =>
      intro p e
      have hl : p.length < es.length := by rw [← e]; simp
      refine ⟨⟨?_, by rw [Jh]; omega⟩, ?_⟩
      · rw [Jg, h _ hl, ← e]; simp [List.getD_eq_getElem?_getD]
      · have := ih (p ++ [x]) (by simpa using e)
        rw [List.length_append] at this
        exact this
  have := key es [] rfl
  unfold ones
  rw [List.range_eq_range']
  exact this
theorem mg_ok {d a b n0 A B A' B':Nat} (h:mgB d a b n0 A B A' B'=true) {E V:Int} (hE:0≤E) (hV:0≤V) {es os:List Int} (hl:es.length=n0) (he:∀ x∈es,Lim E x) (hc:CyN V a b d 2 (zs n0) es os) :
  (∀ x∈os,Lim (A*E+B*V) (DD*x))∧∀ rs,RsN 2 V 0 (zs n0) os rs→∀ x∈rs,Lim (A'*E+B'*V) (DD*x):=by
 subst hl;unfold mgB at h
 split at h
 ·rename_i Os m hcy
  rw [Bool.and_eq_true] at h
  split at h
  ·rename_i Rs m2 hrs
   have hb0:Bd es.length E V (fun j=>es.getD j 0):=⟨fun j hj=>by
    show Lim E (es.getD j 0);rw [gD hj];exact he _ (List.getElem_mem hj),fun j hj=>by
    show Lim V (es.getD j 0);rw [List.getD_eq_getElem?_getD,List.getElem?_eq_none hj];unfold Lim;simp;exact hV⟩
   obtain⟨Y,y1,y2,y3,y4⟩:=zcw d 2 (ones es.length) (List.replicate es.length []) es (zs es.length) os es.length (fun j=>es.getD j 0) Os m (by decide) hcy (Nat.le_refl _) hb0 (JF.zeros _) (ones_ok fun j _=>rfl) hc;refine⟨Jl y2 hE hV h.1 y3,fun rs hr=>?_⟩;obtain⟨Z,z1,z2,z3,z4⟩:=Jk (by decide) Os (List.replicate es.length []) os (zs es.length) rs m [] 0 Y Rs m2 hrs y4 y2 (J1.zero _ _ _) (JF.zeros _) y3 hr;exact Jl z2 hE hV h.2 z3
  ·cases h.2
 ·cases h
theorem mg22_3:mgB 1 2 2 3 2522015791327477760 18446744073709551616 29327440773436669952 41289001383732707328=true:=by decide +kernel
theorem mg11_3:mgB 1 1 1 3 11024811887802974208 18446744073709551616 177189623739264794624 46765378530615230464=true:=by decide +kernel
theorem mg22_7:mgB 2 2 2 7 2522015791327477760 18446744073709551616 29327440773436669952 41289001383732707328=true:=by decide +kernel
theorem mg11_7:mgB 2 1 1 7 11024811887802974208 18446744073709551616 177189623739264794624 46765378530615230464=true:=by decide +kernel
theorem mg22_15:mgB 3 2 2 15 2522015791327477760 18446744073709551616 29327440773436669952 41289001383732707328=true:=by decide +kernel
theorem mg11_15:mgB 3 1 1 15 11024811887802974208 18446744073709551616 177189623739264794624 46765378530615230464=true:=by decide +kernel
def jS (n:Nat):Bool:=decide (n=1) || decide (n=3) || decide (n=7) || decide (n=15) || decide (n=31) || decide (n=63)
def isLn (l:List Nat):Bool:=jS l.length&&pAll l
theorem zcx:∀ n:Nat,n<65→2≤n→decide (vL .and .i64 (n:Int) (IntKind.i64.wrap ((n:Int) - 1))=0)=jS (n - 1):=by decide +kernel
theorem zcy {l:List Nat} (h:l.length=1∨l.length=3∨l.length=7∨l.length=15∨l.length=31∨l.length=63):isLn l=pAll l:=by
 have:jS l.length=true:=by simp [jS];omega
 rw [isLn,this,Bool.true_and]
theorem ln_no {l:List Nat} (h:¬(l.length=1∨l.length=3∨l.length=7∨l.length=15∨l.length=31∨l.length=63)):isLn l=false:=by
 have:jS l.length=false:=by simp [jS];omega
 rw [isLn,this,Bool.false_and]
theorem ZI {l:List Nat} (h:isLn l=true):1≤l.length∧l.length≤63:=by
 simp only [isLn,Bool.and_eq_true,jS,Bool.or_eq_true,decide_eq_true_eq] at h;omega
theorem uY {l:List Nat} {K:Bool→Prop} (hl:l.length≤2 ^ 20) (h:K (isLn l)):spec_l07Line.wp l K:=by
 have y:(l.length=1∨l.length=3∨l.length=7∨l.length=15∨l.length=31∨l.length=63)→spec_l02Finite.wp l (fun b=>K b):=fun e=>uy hl (by rw [zcy e] at h;exact h);refine⟨fun c=>y (by omega),fun c1=>⟨fun c=>y (by omega),fun c2=>⟨fun c=>y (by omega),fun c3=>⟨fun c=>y (by omega),fun c4=>⟨fun c=>y (by omega),fun c5=>⟨fun c=>y (by omega),fun c6=>?_⟩⟩⟩⟩⟩⟩;rw [ln_no (by omega)] at h;exact h
theorem wQ {l:List Nat} {K:Bool→Prop} (hl:l.length≤2 ^ 20) (h:K (isLn l)):impl_isLine.wp l K:=by
 have e:IntKind.i64.wrap ((l.length:Int)+1)=((l.length+1:Nat):Int):=w1 (by omega);unfold impl_isLine.wp;rw [e];refine⟨fun c1=>⟨fun c2=>?_,fun c2=>?_⟩,fun c1=>?_⟩
 ·have hb:=zcx (l.length+1) (by omega) (by omega);rw [Nat.add_sub_cancel] at hb;refine⟨fun c3=>kI hl ?_,fun c3=>?_⟩
  ·rw [decide_eq_true c3] at hb;rw [isLn,←hb,Bool.true_and] at h;exact h
  ·rw [decide_eq_false c3] at hb;rw [isLn,←hb,Bool.false_and] at h;exact h
 ·rw [ln_no (by omega)] at h;exact h
 ·rw [ln_no (by omega)] at h;exact h
def force (s x:Nat):Nat:=fop .mul .f32 (fop .mul .f32 s s) x
def mq (d:Nat):Nat:=fop .quo .f32 (cz .f32 3212836864) d
def fw (f : List Nat) (s : Nat) : Nat → List Nat × List Nat
  | 0 => ([], [])
  | n + 1 => if n = 0 then ([force s (f.getD 0 0)], [cz .f32 1073741824]) else
      ((fw f s n).1 ++ [fop .sub .f32 (force s (f.getD n 0)) (fop .mul .f32 (mq ((fw f s n).2.getD (n - 1) 0)) ((fw f s n).1.getD (n - 1) 0))], (fw f s n).2 ++ [fop .add .f32 (cz .f32 1073741824) (mq ((fw f s n).2.getD (n - 1) 0))])
theorem Yj (f : List Nat) (s : Nat) : ∀ n, (fw f s n).1.length = n ∧ (fw f s n).2.length = n
  | 0 => ⟨rfl, rfl⟩
  | n + 1 => by
    rw [fw]
    split
    · rename_i h; subst h; exact ⟨rfl, rfl⟩
    · have := Yj f s n
      simp only [List.length_append, List.length_cons, List.length_nil, this]; exact ⟨trivial, trivial⟩
def bkS (n:Nat) (g d:List Nat) (u:List Nat) (i:Nat):List Nat:=u.set i (fop .quo .f32 (if i+1<n then fop .add .f32 (g.getD i 0) (u.getD (i+1) 0) else g.getD i 0) (d.getD i 0))
def bk (n:Nat) (g d:List Nat):Nat→List Nat→List Nat
 | 0,u=>u
 | k+1,u=>bk n g d k (bkS n g d u k)
theorem Ug (n:Nat) (g d u:List Nat) (i:Nat):(bkS n g d u i).length=u.length:=by simp [bkS]
theorem zcz (n:Nat) (g d:List Nat):∀ (k:Nat) (u:List Nat),(bk n g d k u).length=u.length
 | 0,_=>rfl
 | k+1,u=>by rw [bk,zcz,Ug]
theorem Uh {n : Nat} {g d : List Nat} {X : List Nat → Int → Prop} {E : List Nat → Prop} (hn : n ≤ 64) (hg : g.length = n) (hd : d.length = n) (hX : ∀ (u : List Nat) (i : Int), (((0 : Int) ≤ i → (0 ≤ i ∧ i < (g.length : Int)) ∧ (((IntKind.i64.wrap (i + (1 : Int))) < (n : Int) → (0 ≤ (IntKind.i64.wrap (i + (1 : Int))) ∧ (IntKind.i64.wrap (i + (1 : Int))) < (u.length : Int)) ∧ (0 ≤ i ∧ i < (d.length : Int)) ∧ (0 ≤ i ∧ i < (u.length : Int)) ∧ X (u.set (i).toNat (fop .quo .f32 (fop .add .f32 (g.getD (i).toNat (0 : Nat)) (u.getD ((IntKind.i64.wrap (i + (1 : Int)))).toNat (0 : Nat))) (d.getD (i).toNat (0 : Nat)))) (IntKind.i64.wrap (i - (1 : Int)))) ∧ (¬((IntKind.i64.wrap (i + (1 : Int))) < (n : Int)) → (0 ≤ i ∧ i < (d.length : Int)) ∧ (0 ≤ i ∧ i < (u.length : Int)) ∧ X (u.set (i).toNat (fop .quo .f32 (g.getD (i).toNat (0 : Nat)) (d.getD (i).toNat (0 : Nat)))) (IntKind.i64.wrap (i - (1 : Int)))))) ∧ (¬((0 : Int) ≤ i) → E u)) → X u i) :
    ∀ (k : Nat) (u : List Nat), k ≤ n → u.length = n → E (bk n g d k u) → X u (IntKind.i64.wrap ((k : Int) - 1))
  | 0, u, _, _, h => by rw [wI (by omega)]; exact hX _ _ ⟨fun c => absurd c (by omega), fun _ => h⟩
  | k + 1, u, hk, hu, h => by
    have ih := Uh hn hg hd hX k (bkS n g d u k) (by omega) (by rw [Ug]; exact hu) h
    rw [show (((k + 1 : Nat) : Int) - 1) = (k : Int) by omega, wI (n := (k : Int)) (by omega)]
    refine hX _ _ ⟨fun _ => ⟨by omega, fun c => ?_, fun c => ?_⟩, fun c => absurd (show (0 : Int) ≤ k by omega) c⟩
    · rw [w1 (by omega)] at c ⊢
      refine ⟨by omega, by omega, by omega, ?_⟩
      rw [bkS, if_pos (by omega)] at ih
      exact ih
    · rw [w1 (by omega)] at c
      refine ⟨by omega, by omega, ?_⟩
      rw [bkS, if_neg (by omega)] at ih
      exact ih
def slv (f:List Nat) (s:Nat):List Nat:=bk f.length (fw f s f.length).1 (fw f s f.length).2 f.length (List.replicate f.length 0)
theorem qZ (f:List Nat) (s:Nat):(slv f s).length=f.length:=by rw [slv,zcz,List.length_replicate]
theorem WE {l:List Nat} {s:Nat} {K:List Nat→Prop} (h1:1≤l.length∧l.length≤63) (h:K (slv l s)):spec_l07Solve.wp l s K:=by
 refine⟨by omega,fun X hX=>?_⟩;have key:X (fw l s (0+1)).1 (fw l s (0+1)).2 ((0+1:Nat):Int):=by
  refine up (Y:=fun i=>X (fw l s (i+1)).1 (fw l s (i+1)).2 ((i+1:Nat):Int)) (l.length - 1) ?_ fun i hi hn=>?_
  ·rw [show l.length - 1+1=l.length by omega];obtain⟨k1,k2⟩:=Yj l s l.length;refine hX _ _ _ ⟨fun c=>absurd c (by omega),fun _=>⟨⟨by omega,by omega,by omega,by omega⟩,fun Y hY=>?_⟩⟩;exact Uh (by omega) k1 k2 hY l.length _ (Nat.le_refl _) (by rw [List.length_replicate];rfl) h
  ·obtain⟨k1,k2⟩:=Yj l s (i+1);rw [show (((i+1)+1:Nat):Int)=((i+1+1:Nat):Int) from rfl] at hn;rw [fw,if_neg (by omega),Nat.add_sub_cancel] at hn;refine hX _ _ _ ⟨fun _=>?_,fun c=>absurd (show ((i+1:Nat):Int)<l.length by omega) c⟩;rw [show IntKind.i64.wrap (((i+1:Nat):Int) - 1)=(i:Int) by rw [wI (by omega)];omega,w1 (by omega),nn,nn,len1,len1];exact⟨by omega,by omega,by omega,by omega,by omega,hn⟩
 exact key
def svOk (l:List Nat) (s:Nat):Bool:=isLn l&&x8 s&&pAll (slv l s)
def sv (l:List Nat) (s:Nat):List Nat:=bif svOk l s then slv l s else []
theorem sl_sv (l:List Nat) (s:Nat) (hl:l.length≤2 ^ 20):(∀ K:List Nat→Bool→Prop,K (sv l s) (svOk l s)→spec_SolveLine.wp l s K)∧(∀ K:List Nat→Bool→Prop,K (sv l s) (svOk l s)→impl_SolveLine.wp l s K)∧(sv l s).length≤2 ^ 20:=by
 by_cases h1:isLn l=true
 ·have hn:=ZI h1
  by_cases h2:x8 s=true
  ·have eok:svOk l s=pAll (slv l s):=by simp [svOk,h1,h2]
   have esv:sv l s=bif pAll (slv l s) then slv l s else []:=by rw [sv,eok]
   rw [esv,eok];have hlen:=qZ l s;have impl:∀ K:List Nat→Bool→Prop,K (bif pAll (slv l s) then slv l s else []) (pAll (slv l s))→impl_SolveLine.wp l s K:=by
    intro K hK;have hfin:impl_finiteList.wp (slv l s) (fun a b=>(a=true→K (slv l s) b)∧(a=false→K [] b)):=wP (by omega) ⟨fun c=>by rw [c] at hK ⊢;exact hK,fun c=>by rw [c] at hK ⊢;exact hK⟩;refine wQ hl (tE h1 (uF (tE h2 fun X hX=>?_)));have key:X (fw l s 0).1 (fw l s 0).2 ((0:Nat):Int):=by
     refine up (Y:=fun i=>X (fw l s i).1 (fw l s i).2 (i:Int)) l.length ?_ fun i hi hn=>?_
     ·obtain⟨k1,k2⟩:=Yj l s l.length;refine hX _ _ _ ⟨fun c=>absurd c (by omega),fun _=>⟨⟨by omega,by omega,by omega,by omega⟩,fun Y hY=>?_⟩⟩;refine Uh (by omega) k1 k2 hY l.length _ (Nat.le_refl _) (by rw [List.length_replicate];rfl) hfin
     ·obtain⟨k1,k2⟩:=Yj l s i;refine hX _ _ _ ⟨fun _=>⟨by omega,fun c=>?_,fun c=>?_⟩,fun c=>absurd (show (i:Int)<l.length by omega) c⟩
      ·obtain rfl:i=0:=by omega
       rw [w1 (by omega),len1,len1];exact⟨by omega,by omega,hn⟩
      ·rw [fw,if_neg (by omega)] at hn;rw [show IntKind.i64.wrap ((i:Int) - 1)=((i - 1:Nat):Int) by rw [wI (by omega)];omega,w1 (by omega),nn,nn,len1,len1];exact⟨by omega,by omega,by omega,by omega,hn⟩
    exact key
   refine⟨fun K hK=>uY hl (tE h1 (qR (tE h2 (WE hn (uy (by omega) ⟨fun c=>?_,fun c=>?_⟩))))),impl,?_⟩
   ·rw [c] at hK;exact hK
   ·rw [c] at hK;exact hK
   ·cases pAll (slv l s)
    ·exact Nat.zero_le _
    ·show (slv l s).length≤_;omega
  ·have h2:x8 s=false:=by simpa using h2
   have eok:svOk l s=false:=by simp [svOk,h2]
   have esv:sv l s=[]:=by rw [sv,eok];rfl
   rw [esv,eok];exact⟨fun K hK=>uY hl (tE h1 (qR (tG h2 hK))),fun K hK=>wQ hl (tE h1 (uF (tG h2 hK))),Nat.zero_le _⟩
 ·have h1:isLn l=false:=by simpa using h1
  have eok:svOk l s=false:=by simp [svOk,h1]
  have esv:sv l s=[]:=by rw [sv,eok];rfl
  rw [esv,eok];exact⟨fun K hK=>uY hl (tG h1 hK),fun K hK=>wQ hl (tG h1 hK),Nat.zero_le _⟩
theorem sv_some {l:List Nat} {s:Nat} (h:svOk l s=true):sv l s≠[]:=by
 have e:sv l s=slv l s:=by rw [sv,h];rfl
 have h1:isLn l=true:=by simp [svOk] at h;exact h.1.1
 have:=ZI h1;intro hx;rw [e] at hx;have h2:=qZ l s;rw [hx] at h2
 simp at h2;omega
def hfW (x:Nat):Nat:=fop .mul .f32 (cz .f32 1056964608) x
theorem VB (x:Nat):fop .quo .f32 x (cz .f32 1073741824)=hfW x:=by
 rw [hfW,show cz .f32 1073741824=1073741824 by decide +kernel,show cz .f32 1056964608=1056964608 by decide +kernel];exact quo_two x
def swE (w p l r:Nat):Nat:=hfW (fop .add .f32 (fop .add .f32 (fop .mul .f32 w p) l) r)
def swW (w:Nat):Nat→List Nat→List Nat→List Nat
 | l,p::ps,_::us=>swE w p l (us.headD 0)::swW w (swE w p l (us.headD 0)) ps us
 | _,_,_=>[]
def smW (w:Nat) (f:List Nat):Nat→List Nat→List Nat
 | 0,u=>u
 | k+1,u=>smW w f k (swW w 0 f u)
def rsE (w p l x r:Nat):Nat:=fop .sub .f32 p (fop .quo .f32 (fop .sub .f32 (fop .sub .f32 (fop .mul .f32 (cz .f32 1073741824) x) l) r) w)
def rsW (w:Nat):Nat→List Nat→List Nat→List Nat
 | l,x::us,p::ps=>rsE w p l x (us.headD 0)::rsW w x us ps
 | _,_,_=>[]
def coE (a b c:Nat):Nat:=fop .add .f32 (fop .add .f32 (fop .mul .f32 (cz .f32 1048576000) a) (fop .mul .f32 (cz .f32 1056964608) b)) (fop .mul .f32 (cz .f32 1048576000) c)
def coW:List Nat→List Nat
 | a::b::c::r=>coE a b c::coW (c::r)
 | _=>[]
def reW:Nat→List Nat→List Nat
 | l,x::r=>hfW (fop .add .f32 l x)::x::reW x r
 | l,[]=>[hfW (fop .add .f32 l 0)]
def adW:List Nat→List Nat→List Nat
 | x::a,y::b=>fop .add .f32 x y::adW a b
 | _,_=>[]
theorem XX (w : Nat) : ∀ (us ps : List Nat) (l : Nat), ps.length = us.length → (swW w l ps us).length = us.length
  | [], [], _, _ => rfl
  | _ :: us, p :: ps, l, h => by
    have := XX w us ps (swE w p l (us.headD 0)) (by simpa using h)
    rw [swW, List.length_cons, List.length_cons, this]
theorem jT (w : Nat) (f : List Nat) : ∀ (k : Nat) (u : List Nat), f.length = u.length → (smW w f k u).length = u.length
  | 0, _, _ => rfl
  | k + 1, u, h => by
    have e := XX w u f 0 h
    rw [smW, jT w f k _ (by omega), e]
theorem uW (w : Nat) : ∀ (us ps : List Nat) (l : Nat), ps.length = us.length → (rsW w l us ps).length = us.length
  | [], [], _, _ => rfl
  | x :: us, p :: ps, l, h => by
    have := uW w us ps x (by simpa using h)
    rw [rsW, List.length_cons, List.length_cons, this]
theorem Zu : ∀ (m : Nat) (l : List Nat), l.length = 2 * m + 1 → (coW l).length = m
  | 0, [a], _ => rfl
  | m + 1, a :: b :: c :: r, h => by
    have := Zu m (c :: r) (by simp at h ⊢; omega)
    rw [coW, List.length_cons, this]
  | m + 1, [_], h => by simp at h
  | m + 1, [_, _], h => by simp at h; omega
  | 0, _ :: _ :: _, h => by simp at h
theorem jU:∀ (l:List Nat) (p:Nat),(reW p l).length=2*l.length+1
 | [],_=>rfl
 | x::r,p=>by rw [reW,List.length_cons,List.length_cons,jU r x,List.length_cons];omega
theorem XY:∀ (a b:List Nat),b.length=a.length→(adW a b).length=a.length
 | [],[],_=>rfl
 | x::a,y::b,h=>by rw [adW,List.length_cons,List.length_cons,XY a b (by simpa using h)]
def lAt (o:List Nat) (i:Nat):Nat:=if i=0 then 0 else o.getD (i - 1) 0
theorem Zv (pre r:List Nat):lAt (pre++r) pre.length=pre.getLastD 0:=by
 unfold lAt;rcases List.eq_nil_or_concat pre with rfl|⟨p,x,rfl⟩
 ·rfl
 ·have e:(p.concat x++r).getD ((p.concat x).length - 1) 0=x:=by
   simp [List.getD_eq_getElem?_getD,List.concat_eq_append]
  rw [if_neg (by simp),e];simp
theorem jw (pre:List Nat) (x:Nat) (r:List Nat):(pre++x::r).getD pre.length 0=x:=by simp [List.getD_eq_getElem?_getD]
theorem Ui (pre:List Nat) (x:Nat) (r:List Nat):(pre++x::r).getD (pre.length+1) 0=r.headD 0:=by
 rw [List.getD_eq_getElem?_getD,List.getElem?_append_right (by omega),show pre.length+1 - pre.length=1 by omega]
 cases r<;>simp
theorem KG (pre:List Nat) (x y:Nat) (r:List Nat):(pre++x::r).set pre.length y=pre++y::r:=by simp
theorem ZV (p:List Nat) (x:Nat):(p++[x]).getLastD 0=x:=by simp
theorem ZW {o:List Nat} {i:Nat} {K:Nat→Prop} (hi:i<o.length+1) (h6:o.length≤2 ^ 20) (h:K (lAt o i)):impl_lineAt.wp o (IntKind.i64.wrap ((i:Int) - 1)) K:=by
 rw [wI (by omega)];unfold lAt at h;refine⟨fun c=>?_,fun c=>⟨fun c2=>absurd c2 (by omega),fun _=>⟨by omega,?_⟩⟩⟩
 ·rw [if_pos (by omega)] at h;rw [XU];exact h
 ·rw [if_neg (by omega)] at h;rw [show ((i:Int) - 1).toNat=i - 1 by omega];exact h
theorem VC {o:List Nat} {i:Nat} {K:Nat→Prop} (h6:o.length≤2 ^ 20) (hi:i≤2 ^ 20) (h:K (o.getD (i+1) 0)):impl_lineAt.wp o (IntKind.i64.wrap ((i:Int)+1)) K:=by
 rw [w1 (by omega)];refine⟨fun c=>absurd c (by omega),fun c=>⟨fun c2=>?_,fun c2=>⟨by omega,h⟩⟩⟩;rw [List.getD_eq_getElem?_getD,List.getElem?_eq_none (by omega)] at h;rw [XU];exact h
theorem UU {o:List Nat} {i:Nat} {K:Nat→Prop} (h:K (o.getD i 0)):impl_lineAt.wp o (i:Int) K:=by
 refine⟨fun c=>absurd c (by omega),fun c=>⟨fun c2=>?_,fun c2=>⟨by omega,h⟩⟩⟩;rw [List.getD_eq_getElem?_getD,List.getElem?_eq_none (by omega)] at h;rw [XU];exact h
theorem ZX {o:List Nat} {i:Nat} {K:Nat→Prop} (hi:i<o.length+1) (h6:o.length≤2 ^ 20) (h:K (lAt o i)):spec_l07At.wp o (IntKind.i64.wrap ((i:Int) - 1)) K:=by
 rw [wI (by omega)];unfold lAt at h;refine⟨fun c=>?_,fun c=>⟨fun c2=>absurd c2 (by omega),fun _=>⟨by omega,?_⟩⟩⟩
 ·rw [if_pos (by omega)] at h;rw [XU];exact h
 ·rw [if_neg (by omega)] at h;rw [show ((i:Int) - 1).toNat=i - 1 by omega];exact h
theorem VD {o:List Nat} {i:Nat} {K:Nat→Prop} (h6:o.length≤2 ^ 20) (hi:i≤2 ^ 20) (h:K (o.getD (i+1) 0)):spec_l07At.wp o (IntKind.i64.wrap ((i:Int)+1)) K:=by
 rw [w1 (by omega)];refine⟨fun c=>absurd c (by omega),fun c=>⟨fun c2=>?_,fun c2=>⟨by omega,h⟩⟩⟩;rw [List.getD_eq_getElem?_getD,List.getElem?_eq_none (by omega)] at h;rw [XU];exact h
theorem UV {o:List Nat} {i:Nat} {K:Nat→Prop} (h:K (o.getD i 0)):spec_l07At.wp o (i:Int) K:=by
 refine⟨fun c=>absurd c (by omega),fun c=>⟨fun c2=>?_,fun c2=>⟨by omega,h⟩⟩⟩;rw [List.getD_eq_getElem?_getD,List.getElem?_eq_none (by omega)] at h;rw [XU];exact h
theorem Uj {w n : Nat} {f : List Nat} {X : List Nat → Int → Prop} (hX : ∀ (o : List Nat) (i : Nat), o.length = n → i < n → X (o.set i (swE w (f.getD i 0) (lAt o i) (o.getD (i + 1) 0))) ((i + 1 : Nat) : Int) → X o (i : Int)) :
    ∀ (us ps pre fp : List Nat), f = fp ++ ps → fp.length = pre.length → ps.length = us.length → pre.length + us.length = n → X (pre ++ swW w (pre.getLastD 0) ps us) (n : Int) → X (pre ++ us) (pre.length : Int)
  | [], [], pre, fp, _, _, _, hn, h => by
    rw [show swW w (pre.getLastD 0) [] [] = [] from rfl] at h
    rw [show pre.length = n by simpa using hn]; exact h
  | x :: us, p :: ps, pre, fp, e, h1, h2, hn, h => by
    refine hX _ _ (by rw [List.length_append]; exact hn) (by rw [List.length_cons] at hn; omega) ?_
    rw [KG, Zv, Ui, e, ← h1, jw]
    have ih := Uj hX us ps (pre ++ [swE w p (pre.getLastD 0) (us.headD 0)]) (fp ++ [p]) (by rw [e]; simp) (by simp; omega) (by simpa using h2) (by simp at hn ⊢; omega) (by
      rw [ZV, List.append_assoc]; exact h)
    rw [List.append_assoc, List.length_append, len1] at ih
    rw [h1]
    exact ih
theorem Uk {n : Nat} {b : List Nat} {X : List Nat → Int → Prop} (hX : ∀ (o : List Nat) (i : Nat), o.length = n → i < n → X (o.set i (fop .add .f32 (o.getD i 0) (b.getD i 0))) ((i + 1 : Nat) : Int) → X o (i : Int)) :
    ∀ (us ps pre fp : List Nat), b = fp ++ ps → fp.length = pre.length → ps.length = us.length → pre.length + us.length = n → X (pre ++ adW us ps) (n : Int) → X (pre ++ us) (pre.length : Int)
  | [], [], pre, fp, _, _, _, hn, h => by
    rw [show adW [] [] = [] from rfl] at h
    rw [show pre.length = n by simpa using hn]; exact h
  | x :: us, p :: ps, pre, fp, e, h1, h2, hn, h => by
    refine hX _ _ (by rw [List.length_append]; exact hn) (by rw [List.length_cons] at hn; omega) ?_
    rw [jw, KG, e, ← h1, jw]
    have ih := Uk hX us ps (pre ++ [fop .add .f32 x p]) (fp ++ [p]) (by rw [e]; simp) (by simp; omega) (by simpa using h2) (by simp at hn ⊢; omega) (by
      rw [List.append_assoc]; exact h)
    rw [List.append_assoc, List.length_append, len1] at ih
    rw [h1]
    exact ih
theorem Ul {w n : Nat} {u f : List Nat} {X : List Nat → Int → Prop} (hX : ∀ (o : List Nat) (i : Nat), o.length = i → i < n → X (o ++ [rsE w (f.getD i 0) (lAt u i) (u.getD i 0) (u.getD (i + 1) 0)]) ((i + 1 : Nat) : Int) → X o (i : Int)) :
    ∀ (us ps pre fp o : List Nat), u = pre ++ us → f = fp ++ ps → fp.length = pre.length → o.length = pre.length → ps.length = us.length → pre.length + us.length = n → X (o ++ rsW w (pre.getLastD 0) us ps) (n : Int) → X o (pre.length : Int)
  | [], [], pre, fp, o, _, _, _, _, _, hn, h => by
    rw [show rsW w (pre.getLastD 0) [] [] = [] from rfl, List.append_nil] at h
    rw [show pre.length = n by simpa using hn]; exact h
  | x :: us, p :: ps, pre, fp, o, eu, e, h1, ho, h2, hn, h => by
    refine hX _ _ ho (by rw [List.length_cons] at hn; omega) ?_
    have ih := Ul hX us ps (pre ++ [x]) (fp ++ [p]) (o ++ [rsE w p (pre.getLastD 0) x (us.headD 0)]) (by rw [eu]; simp) (by rw [e]; simp) (by simp; omega) (by simp; omega) (by simpa using h2) (by simp at hn ⊢; omega) (by
      rw [ZV, List.append_assoc]; exact h)
    rw [List.length_append, len1] at ih
    rw [eu, Zv, jw, Ui, e]
    rw [show (fp ++ p :: ps).getD pre.length 0 = p by rw [← h1, jw]]
    exact ih
theorem Um {l : List Nat} {X : List Nat → Int → Prop} (hX : ∀ (o : List Nat) (i : Nat), o.length ≤ i → i + 2 < l.length → X (o ++ [coE (l.getD i 0) (l.getD (i + 1) 0) (l.getD (i + 2) 0)]) ((i + 3 : Nat) : Int) → X o ((i + 1 : Nat) : Int)) :
    ∀ (m : Nat) (r pre o : List Nat), l = pre ++ r → r.length = 2 * m + 1 → o.length ≤ pre.length → X (o ++ coW r) (l.length : Int) → X o ((pre.length + 1 : Nat) : Int)
  | 0, [a], pre, o, e, _, _, h => by
    rw [show coW [a] = [] from rfl, List.append_nil] at h
    rw [show pre.length + 1 = l.length by rw [e]; simp]; exact h
  | m + 1, a :: b :: c :: r, pre, o, e, hr, ho, h => by
    have ih := Um hX m (c :: r) (pre ++ [a, b]) (o ++ [coE a b c]) (by rw [e]; simp) (by simp at hr ⊢; omega) (by simp; omega) (by
      rw [List.append_assoc]; exact h)
    refine hX _ _ ho (by rw [e]; simp) ?_
    have e1 : l.getD pre.length 0 = a := by rw [e, jw]
    have e2 : l.getD (pre.length + 1) 0 = b := by rw [e, Ui]; rfl
    have e3 : l.getD (pre.length + 2) 0 = c := by rw [e]; simp [List.getD_eq_getElem?_getD, List.getElem?_append_right]
    rw [e1, e2, e3]
    rw [List.length_append] at ih
    exact ih
  | m + 1, [_], _, _, _, h, _, _ => by simp at h
  | m + 1, [_, _], _, _, _, h, _, _ => by simp at h; omega
  | 0, _ :: _ :: _, _, _, _, h, _, _ => by simp at h
theorem par0 (n:Nat):Int.tmod ((2*n:Nat):Int) 2=0∧Int.tdiv ((2*n:Nat):Int) 2=(n:Int):=by
 rw [Int.tmod_eq_emod_of_nonneg (by omega),Int.tdiv_eq_ediv_of_nonneg (by omega)];omega
theorem par1 (n:Nat):Int.tmod ((2*n+1:Nat):Int) 2=1∧Int.tdiv ((2*n+1:Nat):Int) 2=(n:Int):=by
 rw [Int.tmod_eq_emod_of_nonneg (by omega),Int.tdiv_eq_ediv_of_nonneg (by omega)];omega
def lnW (n:Nat):Prop:=n=1∨n=3∨n=7∨n=15∨n=31∨n=63
theorem vO {l:List Nat} (h:lnW l.length) (hf:pAll l=true):isLn l=true:=by rw [zcy h];exact hf
theorem uN {u f:List Nat} {s:Nat} {K:Bool→Prop} (hu:isLn u=true) (hf:isLn f=true) (e:u.length=f.length) (hs:x8 s=true) (h:K true):impl_areLines.wp u f s K:=by
 have h1:=ZI hu;have h2:=ZI hf;refine wQ (by omega) (tE hu (wQ (by omega) (tE hf ⟨fun _=>uF (by rw [hs];exact h),fun c=>absurd (show (u.length:Int)=f.length by omega) c⟩)))
theorem qc {u f : List Nat} {s k : Nat} {K : List Nat → Bool → Prop} (hu : isLn u = true) (hf : isLn f = true) (e : u.length = f.length) (hs : x8 s = true) (hk : k ≤ 32) (hr : pAll (smW (fop .mul .f32 s s) f k u) = true) (h : K (smW (fop .mul .f32 s s) f k u) true) : impl_SmoothLine.wp u f s (k : Int) K := by
  have h1 := ZI hu
  refine uN hu hf e hs (tT (vI ?_))
  rw [decide_eq_true (show (0 : Int) ≤ k ∧ (k : Int) ≤ 32 by omega)]
  refine tT ⟨by simp; omega, fun X hX => ?_⟩
  have key : ∀ (m : Nat) (o : List Nat) (i : Nat), i + m = k → o.length = u.length → smW (fop .mul .f32 s s) f m o = smW (fop .mul .f32 s s) f k u → X o (i : Int) := by
    intro m
    induction m with
    | zero =>
      intro o i h2 h3 h4
      refine hX _ _ ⟨fun c => absurd c (by omega), fun _ => wP (by omega) ?_⟩
      rw [show o = smW (fop .mul .f32 s s) f k u from h4, hr]; exact tT h
    | succ m ih =>
      intro o i h2 h3 h4
      refine hX _ _ ⟨fun _ => fun Y hY => ?_, fun c => absurd (show (i : Int) < k by omega) c⟩
      refine Uj (w := fop .mul .f32 s s) (n := o.length) (f := f) ?_ o f [] [] rfl rfl (by omega) (by simp) ?_
      · intro o' j hj1 hj2 hn
        refine hY _ _ ⟨fun _ => ⟨by omega, ZW (by omega) (by omega) (VC (by omega) (by omega) ⟨by omega, ?_⟩)⟩, fun c => absurd (show (j : Int) < o.length by omega) c⟩
        rw [w1 (by omega), nn, VB]; exact hn
      · refine hY _ _ ⟨fun c => absurd c (by simp), fun _ => ?_⟩
        rw [w1 (by omega)]
        exact ih _ _ (by omega) (by rw [List.nil_append, XX _ _ _ _ (by omega)]; exact h3) (by rw [List.nil_append]; exact h4)
  exact key k _ 0 (by omega) rfl rfl
theorem kT {u f : List Nat} {s k : Nat} {K : List Nat → Prop} (hu : u.length ≤ 63) (e : u.length = f.length) (hk : k ≤ 32) (h : K (smW (fop .mul .f32 s s) f k u)) : spec_l07Smooth.wp u f s (k : Int) K := by
  refine ⟨by simp; omega, fun X hX => ?_⟩
  have key : ∀ (m : Nat) (o : List Nat), m ≤ 32 → o.length = u.length → smW (fop .mul .f32 s s) f m o = smW (fop .mul .f32 s s) f k u → X o (m : Int) := by
    intro m
    induction m with
    | zero =>
      intro o h2 h3 h4
      refine hX _ _ ⟨fun c => absurd c (by omega), fun _ => ?_⟩
      rw [show o = smW (fop .mul .f32 s s) f k u from h4]; exact h
    | succ m ih =>
      intro o h2 h3 h4
      refine hX _ _ ⟨fun _ => fun Y hY => ?_, fun c => absurd (show (0 : Int) < ((m + 1 : Nat) : Int) by omega) c⟩
      refine Uj (w := fop .mul .f32 s s) (n := o.length) (f := f) ?_ o f [] [] rfl rfl (by omega) (by simp) ?_
      · intro o' j hj1 hj2 hn
        refine hY _ _ ⟨fun _ => ⟨by omega, ZX (by omega) (by omega) (VD (by omega) (by omega) ⟨by omega, ?_⟩)⟩, fun c => absurd (show (j : Int) < o.length by omega) c⟩
        rw [w1 (by omega), nn]; exact hn
      · refine hY _ _ ⟨fun c => absurd c (by simp), fun _ => ?_⟩
        rw [show IntKind.i64.wrap (((m + 1 : Nat) : Int) - 1) = (m : Int) by rw [wI (by omega)]; omega]
        exact ih _ (by omega) (by rw [List.nil_append, XX _ _ _ _ (by omega)]; exact h3) (by rw [List.nil_append]; exact h4)
  exact key k _ hk rfl rfl
theorem qd {u f:List Nat} {s:Nat} {K:List Nat→Bool→Prop} (hu:isLn u=true) (hf:isLn f=true) (e:u.length=f.length) (hs:x8 s=true) (hr:pAll (rsW (fop .mul .f32 s s) 0 u f)=true) (h:K (rsW (fop .mul .f32 s s) 0 u f) true):impl_ResidualOf.wp u f s K:=by
 have h1:=ZI hu;refine uN hu hf e hs (tT fun X hX=>?_);refine Ul (w:=fop .mul .f32 s s) (n:=u.length) (u:=u) (f:=f) ?_ u f [] [] [] rfl rfl rfl rfl (by omega) (by simp) ?_
 ·intro o j hj1 hj2 hn;refine hX _ _ ⟨fun _=>⟨by omega,ZW (by omega) (by omega) (VC (by omega) (by omega) ⟨by omega,by rw [len1];omega,?_⟩)⟩,fun c=>absurd (show (j:Int)<u.length by omega) c⟩;rw [w1 (by omega),nn];exact hn
 ·refine hX _ _ ⟨fun c=>absurd c (by simp),fun _=>wP (by rw [List.nil_append,uW _ _ _ _ (by omega)];omega) ?_⟩;rw [List.nil_append,show ([]:List Nat).getLastD 0=0 from rfl,hr];exact tT h
theorem jB {u f:List Nat} {s:Nat} {K:List Nat→Prop} (hu:u.length≤63) (e:u.length=f.length) (h:K (rsW (fop .mul .f32 s s) 0 u f)):spec_l07Residual.wp u f s K:=by
 intro X hX;refine Ul (w:=fop .mul .f32 s s) (n:=u.length) (u:=u) (f:=f) ?_ u f [] [] [] rfl rfl rfl rfl (by omega) (by simp) ?_
 ·intro o j hj1 hj2 hn;refine hX _ _ ⟨fun _=>⟨by omega,ZX (by omega) (by omega) (VD (by omega) (by omega) ⟨by omega,by rw [len1];omega,?_⟩)⟩,fun c=>absurd (show (j:Int)<u.length by omega) c⟩;rw [w1 (by omega),nn];exact hn
 ·refine hX _ _ ⟨fun c=>absurd c (by simp),fun _=>?_⟩;rw [List.nil_append];exact h
theorem jC {l:List Nat} {m:Nat} {K:List Nat→Bool→Prop} (hl:isLn l=true) (hm:l.length=2*m+1) (h1:1≤m) (hr:pAll (coW l)=true) (h:K (coW l) true):impl_CoarsenLine.wp l K:=by
 have h2:=ZI hl;refine wQ (by omega) (tE hl (tN (by omega) fun X hX=>?_));refine Um (l:=l) ?_ m l [] [] rfl hm (by simp) ?_
 ·intro o i ho hi hn;refine hX _ _ ⟨fun _=>?_,fun c=>absurd (show ((i+1:Nat):Int)<l.length by omega) c⟩;rw [show IntKind.i64.wrap (((i+1:Nat):Int) - 1)=(i:Int) by rw [wI (by omega)];omega,w1 (by omega),show IntKind.i64.wrap (((i+1:Nat):Int)+2)=((i+3:Nat):Int) by rw [wI (by omega)];omega];exact⟨by omega,by omega,by omega,by rw [len1];omega,hn⟩
 ·refine hX _ _ ⟨fun c=>absurd c (by omega),fun _=>wP (by rw [List.nil_append,Zu m l hm];omega) ?_⟩;rw [List.nil_append,hr];exact tT h
theorem XA {l:List Nat} {m:Nat} {K:List Nat→Prop} (hl:l.length≤63) (hm:l.length=2*m+1) (h:K (coW l)):spec_l07Coarsen.wp l K:=by
 intro X hX;refine Um (l:=l) ?_ m l [] [] rfl hm (by simp) ?_
 ·intro o i ho hi hn;refine hX _ _ ⟨fun _=>?_,fun c=>absurd (show ((i+1:Nat):Int)<l.length by omega) c⟩;rw [show IntKind.i64.wrap (((i+1:Nat):Int) - 1)=(i:Int) by rw [wI (by omega)];omega,w1 (by omega),show IntKind.i64.wrap (((i+1:Nat):Int)+2)=((i+3:Nat):Int) by rw [wI (by omega)];omega];exact⟨by omega,by omega,by omega,by rw [len1];omega,hn⟩
 ·refine hX _ _ ⟨fun c=>absurd c (by omega),fun _=>?_⟩;rw [List.nil_append];exact h
theorem kK {l : List Nat} {K : List Nat → Bool → Prop} (hl : isLn l = true) (h31 : l.length ≤ 31) (hr : pAll (reW 0 l) = true) (h : K (reW 0 l) true) : impl_RefineLine.wp l K := by
  refine wQ (by omega) (tE hl (tN (by omega) fun X hX => ?_))
  have key : ∀ (r pre o : List Nat), l = pre ++ r → o.length = 2 * pre.length → o ++ reW (pre.getLastD 0) r = reW 0 l → X o (pre.length : Int) := by
    intro r
    induction r with
    | nil =>
      intro pre o e ho h1
      have hpl : pre.length = l.length := by rw [e]; simp
      refine hX _ _ ⟨fun _ => ZW (by omega) (by omega) (UU ?_), fun c => absurd (show (pre.length : Int) < IntKind.i64.wrap ((l.length : Int) + 1) by rw [w1 (by omega)]; omega) c⟩
      rw [VB]
      refine ⟨by rw [len1]; omega, fun c => absurd c (by omega), fun _ => ?_⟩
      have e1 : lAt l pre.length = pre.getLastD 0 := by rw [e]; exact Zv _ _
      have e2 : l.getD pre.length 0 = 0 := by rw [List.getD_eq_getElem?_getD, List.getElem?_eq_none (by omega)]; rfl
      rw [e1, e2, w1 (by omega)]
      rw [reW] at h1
      rw [h1]
      refine hX _ _ ⟨fun c => absurd c (by rw [w1 (by omega)]; omega), fun _ => wP (by rw [jU]; omega) ?_⟩
      rw [hr]; exact tT h
    | cons x r ih =>
      intro pre o e ho h1
      have hpl : pre.length < l.length := by rw [e]; simp
      refine hX _ _ ⟨fun _ => ZW (by omega) (by omega) (UU ?_), fun c => absurd (show (pre.length : Int) < IntKind.i64.wrap ((l.length : Int) + 1) by rw [w1 (by omega)]; omega) c⟩
      rw [VB]
      refine ⟨by rw [len1]; omega, fun _ => ⟨by omega, by rw [List.length_append, len1, len1]; omega, ?_⟩, fun c => absurd (show (pre.length : Int) < l.length by omega) c⟩
      have e1 : lAt l pre.length = pre.getLastD 0 := by rw [e]; exact Zv _ _
      have e2 : l.getD pre.length 0 = x := by rw [e]; exact jw _ _ _
      rw [nn, e1, e2, w1 (by omega)]
      have := ih (pre ++ [x]) (o ++ [hfW (fop .add .f32 (pre.getLastD 0) x)] ++ [x]) (by rw [e]; simp) (by simp; omega) (by rw [ZV, ← h1, reW]; simp)
      rw [List.length_append, len1] at this
      exact this
  exact key l [] [] rfl rfl rfl
theorem X7 {l : List Nat} {K : List Nat → Prop} (h31 : l.length ≤ 31) (h : K (reW 0 l)) : spec_l07Refine.wp l K := by
  intro X hX
  have e2l : IntKind.i64.wrap ((2 : Int) * (l.length : Int)) = ((2 * l.length : Nat) : Int) := by rw [wI (by omega)]; omega
  have key : ∀ (r pre o : List Nat), l = pre ++ r → o.length = 2 * pre.length → o ++ reW (pre.getLastD 0) r = reW 0 l → X o ((2 * pre.length : Nat) : Int) := by
    intro r
    induction r with
    | nil =>
      intro pre o e ho h1
      have hpl : pre.length = l.length := by rw [e]; simp
      have d1 := (par0 pre.length).1
      have d2 := (par0 pre.length).2
      refine hX _ _ ⟨fun _ => ⟨fun c => absurd c (by rw [d1]; decide), fun _ => ?_⟩, fun c => absurd (show ((2 * pre.length : Nat) : Int) ≤ IntKind.i64.wrap ((2 : Int) * (l.length : Int)) by rw [e2l]; omega) c⟩
      rw [d2, wI (n := (pre.length : Int)) (by omega)]
      refine ZX (by omega) (by omega) (UV ⟨by rw [len1]; omega, ?_⟩)
      have e1 : lAt l pre.length = pre.getLastD 0 := by rw [e]; exact Zv _ _
      have e2 : l.getD pre.length 0 = 0 := by rw [List.getD_eq_getElem?_getD, List.getElem?_eq_none (by omega)]; rfl
      rw [e1, e2, w1 (by omega)]
      rw [reW, hfW] at h1
      rw [h1]
      refine hX _ _ ⟨fun c => absurd c (by rw [e2l]; omega), fun _ => h⟩
    | cons x r ih =>
      intro pre o e ho h1
      have hpl : pre.length < l.length := by rw [e]; simp
      have d1 := (par0 pre.length).1
      have d2 := (par0 pre.length).2
      have d3 := (par1 pre.length).1
      have d4 := (par1 pre.length).2
      refine hX _ _ ⟨fun _ => ⟨fun c => absurd c (by rw [d1]; decide), fun _ => ?_⟩, fun c => absurd (show ((2 * pre.length : Nat) : Int) ≤ IntKind.i64.wrap ((2 : Int) * (l.length : Int)) by rw [e2l]; omega) c⟩
      rw [d2, wI (n := (pre.length : Int)) (by omega)]
      refine ZX (by omega) (by omega) (UV ⟨by rw [len1]; omega, ?_⟩)
      have e1 : lAt l pre.length = pre.getLastD 0 := by rw [e]; exact Zv _ _
      have e2 : l.getD pre.length 0 = x := by rw [e]; exact jw _ _ _
      rw [e1, e2, w1 (by omega)]
      refine hX _ _ ⟨fun _ => ⟨fun _ => ?_, fun c => absurd d3 c⟩, fun c => absurd (show ((2 * pre.length + 1 : Nat) : Int) ≤ IntKind.i64.wrap ((2 : Int) * (l.length : Int)) by rw [e2l]; omega) c⟩
      rw [d4, wI (n := (pre.length : Int)) (by omega), nn, e2, w1 (by omega)]
      refine ⟨by omega, by rw [List.length_append, len1, len1]; omega, ?_⟩
      have := ih (pre ++ [x]) (o ++ [hfW (fop .add .f32 (pre.getLastD 0) x)] ++ [x]) (by rw [e]; simp) (by simp; omega) (by rw [ZV, ← h1, reW]; simp)
      rw [List.length_append, len1] at this
      exact this
  exact key l [] [] rfl rfl rfl
def botW (im:Bool) (s x:Nat):Nat:=bif im then hfW (fop .mul .f32 (fop .mul .f32 s s) x) else fop .mul .f32 (fop .mul .f32 (fop .mul .f32 (cz .f32 1056964608) s) s) x
def twW (s:Nat):Nat:=fop .mul .f32 (cz .f32 1073741824) s
def cyW (im:Bool) (a b:Nat):Nat→Nat→List Nat→List Nat→List Nat
 | 0,s,_,f=>[botW im s (f.getD 0 0)]
 | d+1,s,u,f=>smW (fop .mul .f32 s s) f b (adW (smW (fop .mul .f32 s s) f a u) (reW 0 (cyW im a b d (twW s) (List.replicate (coW (rsW (fop .mul .f32 s s) 0 (smW (fop .mul .f32 s s) f a u) f)).length 0) (coW (rsW (fop .mul .f32 s s) 0 (smW (fop .mul .f32 s s) f a u) f)))))
def dl:Nat→Nat
 | 0=>1
 | d+1=>2*dl d+1
theorem XB:∀ d,1≤dl d
 | 0=>Nat.le_refl _
 | d+1=>by rw [dl];omega
theorem qJ:∀ d,d≤3→lnW (dl d)∧dl d≤15
 | 0,_=>⟨.inl rfl,by decide⟩
 | 1,_=>⟨.inr (.inl rfl),by decide⟩
 | 2,_=>⟨.inr (.inr (.inl rfl)),by decide⟩
 | 3,_=>⟨.inr (.inr (.inr (.inl rfl))),by decide⟩
 | _+4,h=>absurd h (by omega)
theorem Zw (im : Bool) (a b : Nat) : ∀ (d s : Nat) (u f : List Nat), u.length = dl d → f.length = dl d → (cyW im a b d s u f).length = dl d
  | 0, _, _, _, _, _ => rfl
  | d + 1, s, u, f, hu, hf => by
    rw [dl] at hu hf
    have e1 := jT (fop .mul .f32 s s) f a u (by omega)
    have e2 := uW (fop .mul .f32 s s) (smW (fop .mul .f32 s s) f a u) f 0 (by omega)
    have e3 := Zu (dl d) _ (show (rsW (fop .mul .f32 s s) 0 (smW (fop .mul .f32 s s) f a u) f).length = 2 * dl d + 1 by omega)
    have e4 := Zw im a b d (twW s) (List.replicate (coW (rsW (fop .mul .f32 s s) 0 (smW (fop .mul .f32 s s) f a u) f)).length 0) _ (by rw [List.length_replicate]; exact e3) e3
    have e5 := jU (cyW im a b d (twW s) (List.replicate (coW (rsW (fop .mul .f32 s s) 0 (smW (fop .mul .f32 s s) f a u) f)).length 0) (coW (rsW (fop .mul .f32 s s) 0 (smW (fop .mul .f32 s s) f a u) f))) 0
    have e6 := XY (smW (fop .mul .f32 s s) f a u) _ (show (reW 0 (cyW im a b d (twW s) (List.replicate (coW (rsW (fop .mul .f32 s s) 0 (smW (fop .mul .f32 s s) f a u) f)).length 0) (coW (rsW (fop .mul .f32 s s) 0 (smW (fop .mul .f32 s s) f a u) f)))).length = _ by omega)
    rw [cyW, jT _ _ _ _ (by omega), dl]; omega
def XZ (a b : Nat) : Nat → Nat → List Nat → List Nat → Prop
  | 0, s, u, f => x8 s = true ∧ pAll u = true ∧ pAll f = true ∧ pAll [botW true s (f.getD 0 0)] = true
  | d + 1, s, u, f => x8 s = true ∧ pAll u = true ∧ pAll f = true ∧ pAll (smW (fop .mul .f32 s s) f a u) = true ∧ pAll (rsW (fop .mul .f32 s s) 0 (smW (fop .mul .f32 s s) f a u) f) = true ∧
    pAll (coW (rsW (fop .mul .f32 s s) 0 (smW (fop .mul .f32 s s) f a u) f)) = true ∧ XZ a b d (twW s) (List.replicate (coW (rsW (fop .mul .f32 s s) 0 (smW (fop .mul .f32 s s) f a u) f)).length 0) (coW (rsW (fop .mul .f32 s s) 0 (smW (fop .mul .f32 s s) f a u) f)) ∧
    pAll (cyW true a b d (twW s) (List.replicate (coW (rsW (fop .mul .f32 s s) 0 (smW (fop .mul .f32 s s) f a u) f)).length 0) (coW (rsW (fop .mul .f32 s s) 0 (smW (fop .mul .f32 s s) f a u) f))) = true ∧
    pAll (reW 0 (cyW true a b d (twW s) (List.replicate (coW (rsW (fop .mul .f32 s s) 0 (smW (fop .mul .f32 s s) f a u) f)).length 0) (coW (rsW (fop .mul .f32 s s) 0 (smW (fop .mul .f32 s s) f a u) f)))) = true ∧
    pAll (adW (smW (fop .mul .f32 s s) f a u) (reW 0 (cyW true a b d (twW s) (List.replicate (coW (rsW (fop .mul .f32 s s) 0 (smW (fop .mul .f32 s s) f a u) f)).length 0) (coW (rsW (fop .mul .f32 s s) 0 (smW (fop .mul .f32 s s) f a u) f))))) = true ∧
    pAll (cyW true a b (d + 1) s u f) = true
theorem KH {a b : Nat} (ha : a ≤ 8) (hb : b ≤ 8) {X : List Nat → List Nat → Nat → Int → Int → (List Nat → Bool → Prop) → Prop} (hX : ∀ l0 l1 a2 a3 a4 K, impl_CycleOnce.bd X l0 l1 a2 a3 a4 K → X l0 l1 a2 a3 a4 K) :
    ∀ (d s : Nat) (u f : List Nat) (K : List Nat → Bool → Prop), d ≤ 3 → u.length = dl d → f.length = dl d → XZ a b d s u f → K (cyW true a b d s u f) true → X u f s (a : Int) (b : Int) K
  | 0, s, u, f, K, _, hu, hf, ⟨c1, c2, c3, c4⟩, h => by
    refine hX _ _ _ _ _ _ (uN (vO (.inl hu) c2) (vO (.inl hf) c3) (by omega) c1 (tT (vI ?_)))
    rw [decide_eq_true (show (0 : Int) ≤ a ∧ (a : Int) ≤ 8 by omega)]
    refine tT (vI ?_)
    rw [decide_eq_true (show (0 : Int) ≤ b ∧ (b : Int) ≤ 8 by omega)]
    refine tT (tP (by rw [hu]; rfl) ⟨by rw [hf, dl]; omega, ?_⟩)
    rw [VB]
    refine wP (by simp) ?_
    rw [show pAll [hfW (fop .mul .f32 (fop .mul .f32 s s) (f.getD ((0 : Int)).toNat 0))] = true from c4]
    exact tT h
  | d + 1, s, u, f, K, hd, hu, hf, ⟨c1, c2, c3, c4, c5, c6, c7, c8, c9, c10, c11⟩, h => by
    have hl := qJ (d + 1) hd
    have hl' := qJ d (by omega)
    have hp := XB d
    have e1 := jT (fop .mul .f32 s s) f a u (by omega)
    have e2 := uW (fop .mul .f32 s s) (smW (fop .mul .f32 s s) f a u) f 0 (by omega)
    have hdl : dl (d + 1) = 2 * dl d + 1 := rfl
    have e3 := Zu (dl d) _ (show (rsW (fop .mul .f32 s s) 0 (smW (fop .mul .f32 s s) f a u) f).length = 2 * dl d + 1 by omega)
    refine hX _ _ _ _ _ _ (uN (vO (by rw [hu]; exact hl.1) c2) (vO (by rw [hf]; exact hl.1) c3) (by omega) c1 (tT (vI ?_)))
    rw [decide_eq_true (show (0 : Int) ≤ a ∧ (a : Int) ≤ 8 by omega)]
    refine tT (vI ?_)
    rw [decide_eq_true (show (0 : Int) ≤ b ∧ (b : Int) ≤ 8 by omega)]
    refine tT (tN (by omega) (qc (vO (by rw [hu]; exact hl.1) c2) (vO (by rw [hf]; exact hl.1) c3) (by omega) c1 (by omega) c4 (tT ?_)))
    refine qd (vO (by rw [e1, hu]; exact hl.1) c4) (vO (by rw [hf]; exact hl.1) c3) (by omega) c1 c5 (tT ?_)
    refine jC (m := dl d) (vO (by rw [e2, e1, hu]; exact hl.1) c5) (by omega) (by omega) c6 (tT ⟨by omega, ?_⟩)
    rw [nn, show fop .mul .f32 (cz .f32 1073741824) s = twW s from rfl]
    refine KH ha hb hX d _ _ _ _ (by omega) (by rw [List.length_replicate]; exact e3) e3 c7 (tT ?_)
    have e4 := Zw true a b d (twW s) (List.replicate (coW (rsW (fop .mul .f32 s s) 0 (smW (fop .mul .f32 s s) f a u) f)).length 0) _ (by rw [List.length_replicate]; exact e3) e3
    refine kK (vO (by rw [e4]; exact hl'.1) c8) (by omega) c9 (tT fun Y hY => ?_)
    have e5 := jU (cyW true a b d (twW s) (List.replicate (coW (rsW (fop .mul .f32 s s) 0 (smW (fop .mul .f32 s s) f a u) f)).length 0) (coW (rsW (fop .mul .f32 s s) 0 (smW (fop .mul .f32 s s) f a u) f))) 0
    refine Uk (n := (smW (fop .mul .f32 s s) f a u).length) (b := reW 0 (cyW true a b d (twW s) (List.replicate (coW (rsW (fop .mul .f32 s s) 0 (smW (fop .mul .f32 s s) f a u) f)).length 0) (coW (rsW (fop .mul .f32 s s) 0 (smW (fop .mul .f32 s s) f a u) f)))) ?_ _ _ [] [] rfl rfl (by omega) (by simp) ?_
    · intro o j hj1 hj2 hn
      refine hY _ _ ⟨fun _ => ⟨by omega, by omega, ?_⟩, fun c => absurd (show (j : Int) < _ by omega) c⟩
      rw [w1 (by omega), nn]; exact hn
    · have e6 := XY (smW (fop .mul .f32 s s) f a u) _ (show (reW 0 (cyW true a b d (twW s) (List.replicate (coW (rsW (fop .mul .f32 s s) 0 (smW (fop .mul .f32 s s) f a u) f)).length 0) (coW (rsW (fop .mul .f32 s s) 0 (smW (fop .mul .f32 s s) f a u) f)))).length = _ by omega)
      rw [List.nil_append]
      refine hY _ _ ⟨fun c => absurd c (by omega), fun _ => ?_⟩
      exact qc (vO (by rw [e6, e1, hu]; exact hl.1) c10) (vO (by rw [hf]; exact hl.1) c3) (by omega) c1 (by omega) c11 h
theorem qp {a b d s:Nat} {u f:List Nat} {K:List Nat→Bool→Prop} (ha:a≤8) (hb:b≤8) (hd:d≤3) (hu:u.length=dl d) (hf:f.length=dl d) (hc:XZ a b d s u f) (h:K (cyW true a b d s u f) true):impl_CycleOnce.wp u f s (a:Int) (b:Int) K:=fun X hX=>KH ha hb hX d s u f K hd hu hf hc h
theorem KI {a b : Nat} (ha : a ≤ 8) (hb : b ≤ 8) {X : List Nat → List Nat → Nat → Int → Int → (List Nat → Prop) → Prop} (hX : ∀ l0 l1 a2 a3 a4 K, spec_l07Cycle.bd X l0 l1 a2 a3 a4 K → X l0 l1 a2 a3 a4 K) :
    ∀ (d s : Nat) (u f : List Nat) (K : List Nat → Prop), d ≤ 3 → u.length = dl d → f.length = dl d → K (cyW false a b d s u f) → X u f s (a : Int) (b : Int) K
  | 0, s, u, f, K, _, hu, hf, h => by
    exact hX _ _ _ _ _ _ (tP (by rw [hu]; rfl) ⟨by rw [hf, dl]; omega, h⟩)
  | d + 1, s, u, f, K, hd, hu, hf, h => by
    have hl := qJ (d + 1) hd
    have hl' := qJ d (by omega)
    have hp := XB d
    have e1 := jT (fop .mul .f32 s s) f a u (by omega)
    have e2 := uW (fop .mul .f32 s s) (smW (fop .mul .f32 s s) f a u) f 0 (by omega)
    have hdl : dl (d + 1) = 2 * dl d + 1 := rfl
    have e3 := Zu (dl d) _ (show (rsW (fop .mul .f32 s s) 0 (smW (fop .mul .f32 s s) f a u) f).length = 2 * dl d + 1 by omega)
    refine hX _ _ _ _ _ _ (tN (by omega) (kT (by omega) (by omega) (by omega) ?_))
    refine jB (by omega) (by omega) ?_
    refine XA (m := dl d) (by omega) (by omega) ⟨by omega, ?_⟩
    rw [nn, show fop .mul .f32 (cz .f32 1073741824) s = twW s from rfl]
    refine KI ha hb hX d _ _ _ _ (by omega) (by rw [List.length_replicate]; exact e3) e3 ?_
    have e4 := Zw false a b d (twW s) (List.replicate (coW (rsW (fop .mul .f32 s s) 0 (smW (fop .mul .f32 s s) f a u) f)).length 0) _ (by rw [List.length_replicate]; exact e3) e3
    refine X7 (by omega) fun Y hY => ?_
    have e5 := jU (cyW false a b d (twW s) (List.replicate (coW (rsW (fop .mul .f32 s s) 0 (smW (fop .mul .f32 s s) f a u) f)).length 0) (coW (rsW (fop .mul .f32 s s) 0 (smW (fop .mul .f32 s s) f a u) f))) 0
    refine Uk (n := (smW (fop .mul .f32 s s) f a u).length) (b := reW 0 (cyW false a b d (twW s) (List.replicate (coW (rsW (fop .mul .f32 s s) 0 (smW (fop .mul .f32 s s) f a u) f)).length 0) (coW (rsW (fop .mul .f32 s s) 0 (smW (fop .mul .f32 s s) f a u) f)))) ?_ _ _ [] [] rfl rfl (by omega) (by simp) ?_
    · intro o j hj1 hj2 hn
      refine hY _ _ ⟨fun _ => ⟨by omega, by omega, ?_⟩, fun c => absurd (show (j : Int) < _ by omega) c⟩
      rw [w1 (by omega), nn]; exact hn
    · have e6 := XY (smW (fop .mul .f32 s s) f a u) _ (show (reW 0 (cyW false a b d (twW s) (List.replicate (coW (rsW (fop .mul .f32 s s) 0 (smW (fop .mul .f32 s s) f a u) f)).length 0) (coW (rsW (fop .mul .f32 s s) 0 (smW (fop .mul .f32 s s) f a u) f)))).length = _ by omega)
      rw [List.nil_append]
      refine hY _ _ ⟨fun c => absurd c (by omega), fun _ => ?_⟩
      exact kT (by omega) (by omega) (by omega) h
theorem WF {a b d s:Nat} {u f:List Nat} {K:List Nat→Prop} (ha:a≤8) (hb:b≤8) (hd:d≤3) (hu:u.length=dl d) (hf:f.length=dl d) (h:K (cyW false a b d s u f)):spec_l07Cycle.wp u f s (a:Int) (b:Int) K:=fun X hX=>KI ha hb hX d s u f K hd hu hf h
end Go.Proofs.Ytochgocgmeeppaa.G
namespace Go.Proofs.Ytochgocgmeeppaa.G
open Go Go.Ab
set_option maxRecDepth 100000
set_option maxHeartbeats 1000000
set_option exponentiation.threshold 4000
def U144:Int:=((2 ^ 144:Nat):Int)
theorem Jm:0<U144:=wM _
theorem One_U:One=32*U144:=by decide +kernel
theorem wK (k:Nat):1024≤Tf k:=by
 have:2 ^ 10≤2 ^ (125+k):=Nat.pow_le_pow_right (by decide) (by omega);unfold Tf;omega
theorem jy (k:Nat) (hk:k≤60) {w y:Nat} {a n:Int} (hw:Vl .f32 w (n*U144)) (hy:Vl .f32 y a) (h:Lim (536000000*Tf k) (n*a)):∃ r,Vl .f32 (fop .mul .f32 w y) r∧Lim (64*Tf k) (32*r - n*a):=by
 have hT:=wK k;have hu:=Int.le_of_lt Jm;obtain⟨h1,h2⟩:=h;have e:n*U144*a=n*a*U144:=by rw [Int.mul_assoc,Int.mul_comm U144,←Int.mul_assoc]
 obtain⟨r,v,l1,l2⟩:=fmul k hk (p:=(n*a) / 32) hw hy (by rw [One_U,e];exact scl _ hu (by omega)) (by rw [One_U,e];exact scl' _ hu (by omega)) (by omega) (by omega);exact⟨r,v,by unfold Lim;omega⟩
theorem X0 (k:Nat) (hk:k≤60) {x:Nat} {a:Int} (hx:Vl .f32 x a) (h:Lim (33000000*Tf k) a):∃ r,Vl .f32 (hfW x) r∧Lim (4*Tf k) (2*r - a):=by
 have hT:=wK k;obtain⟨r,v,l⟩:=jy k hk (n:=16) (x9 (by decide +kernel):Vl .f32 (cz .f32 1056964608) (16*U144)) hx (by unfold Lim at *;omega);exact⟨r,v,by unfold Lim at *;omega⟩
theorem mul4 (a x y z:Nat):a*(x*y)*z=a*y*(x*z):=by ac_rfl
theorem mul3 (a x y:Nat):a*x*y=x*(a*y):=by ac_rfl
theorem fquoN (k:Nat) (hk:k≤60) {w x:Nat} {t n:Int} (hn:0<n) (hw:Vl .f32 w (n*U144)) (hx:Vl .f32 x t) (h:Lim (4194304*(n*Tf k)) (32*t)):∃ r,Vl .f32 (fop .quo .f32 x w) r∧Lim (2*(n*Tf k)) (n*r - 32*t):=by
 have hT:=wK k;have hu:=Jm;have hnT:0<n*Tf k:=Int.mul_pos hn (by omega);obtain⟨r,v,l1,l2,_⟩:=fquo k hk hx hw (Int.mul_pos hn hu) (by
  have h1:(32*t).natAbs≤(4194304*(n*Tf k)).natAbs:=by unfold Lim at h;omega
  rw [Int.natAbs_mul,Int.natAbs_mul,Int.natAbs_mul] at h1;rw [Int.natAbs_mul];have e1:(Tf k).natAbs=2 ^ (125+k):=by unfold Tf;exact Int.natAbs_natCast _
  have e2:U144.natAbs=2 ^ 144:=by unfold U144;exact Int.natAbs_natCast _
  rw [e1] at h1;rw [e2];have h2:=Nat.mul_le_mul_right (2 ^ 144) h1;have e3:(32:Int).natAbs*t.natAbs*2 ^ 144=t.natAbs*2 ^ 149:=by
   rw [mul3,show (32:Int).natAbs=2 ^ 5 from rfl,←Nat.pow_add]
  have e4:(4194304:Int).natAbs*(n.natAbs*2 ^ (125+k))*2 ^ 144=2 ^ (147+k)*(n.natAbs*2 ^ 144):=by
   rw [mul4,show (4194304:Int).natAbs=2 ^ 22 from rfl,←Nat.pow_add,show 22+(125+k)=147+k by omega]
  rw [e3,e4] at h2;exact h2)
 have f1:(r - 2*Tf k)*(n*U144)=((r - 2*Tf k)*n)*U144:=by rw [Int.mul_assoc]
 have f2:(r+2*Tf k)*(n*U144)=((r+2*Tf k)*n)*U144:=by rw [Int.mul_assoc]
 have f3:t*One=(32*t)*U144:=by rw [One_U,←Int.mul_assoc,Int.mul_comm t 32]
 rw [f1,f3] at l1;rw [f2,f3] at l2;have g1:=Int.le_of_mul_le_mul_right l1 hu;have g2:=Int.le_of_mul_le_mul_right l2 hu;rw [Int.sub_mul,Int.mul_assoc 2,Int.mul_comm (Tf k),Int.mul_comm r] at g1;rw [Int.add_mul,Int.mul_assoc 2,Int.mul_comm (Tf k),Int.mul_comm r] at g2;exact⟨r,v,by unfold Lim;omega⟩
theorem zeb (k:Nat) (hk:k≤60) {w p l r:Nat} {n P L R A B C:Int} (hw:Vl .f32 w (n*U144)) (hp:Vl .f32 p P) (hl:Vl .f32 l L) (hr:Vl .f32 r R) (hP:Lim (32*A) (n*P)) (hL:Lim B L) (hR:Lim C R) (hs:A+B+C+20*Tf k≤16700000*Tf k) :
  ∃ o,Vl .f32 (swE w p l r) o∧Lim (256*Tf k) (64*o - (n*P+32*L+32*R)):=by
 have hT:=wK k;unfold Lim at *;obtain⟨f,vf,lf⟩:=jy k hk hw hp (by unfold Lim;omega);unfold Lim at lf;obtain⟨x1,v1,l1,m1⟩:=fadd k hk vf hl (by omega) (by omega);obtain⟨x2,v2,l2,m2⟩:=fadd k hk v1 hr (by omega) (by omega);obtain⟨o,vo,lo⟩:=X0 k hk v2 (by unfold Lim;omega);unfold Lim at lo;exact⟨o,vo,by omega⟩
theorem two_v:Vl .f32 (cz .f32 1073741824) (64*U144):=x9 (by decide +kernel)
theorem zec (k:Nat) (hk:k≤60) {w p l x r:Nat} {n P L X R A B C:Int} (hn:2≤n) (hw:Vl .f32 w (n*U144)) (hp:Vl .f32 p P) (hl:Vl .f32 l L) (hx:Vl .f32 x X) (hr:Vl .f32 r R) (hX:Lim B X) (hL:Lim B L) (hR:Lim B R)
  (hA:Lim (32*A) (32*(2*X - L - R))) (hC:Lim (n*C) (n*P - 32*(2*X - L - R))) (h1:3*B+20*Tf k≤16700000*Tf k) (h2:32*A+200*Tf k≤4194304*(n*Tf k)) (h3:C+100*Tf k≤16700000*Tf k) (h4:A+20*Tf k≤16700000*Tf k) :
  ∃ o,Vl .f32 (rsE w p l x r) o∧Lim (3*(n*Tf k)+128*Tf k) (n*o - (n*P - 32*(2*X - L - R))):=by
 have hT:=wK k;have hnT:2*Tf k≤n*Tf k:=Int.mul_le_mul_of_nonneg_right hn (by omega);unfold Lim at *;obtain⟨t1,v1,l1⟩:=jy k hk two_v hx (by unfold Lim;omega);unfold Lim at l1;obtain⟨t2,v2,l2,m2⟩:=fsub k hk v1 hl (by omega) (by omega);obtain⟨t3,v3,l3,m3⟩:=fsub k hk v2 hr (by omega) (by omega);obtain⟨q,vq,lq⟩:=fquoN k hk (by omega) hw v3 (by unfold Lim;omega);unfold Lim at lq;have e:n*(P - q)=n*P - n*q:=Int.mul_sub _ _ _;have hc1:n*(P - q)≤n*(C+100*Tf k):=by
  rw [e,Int.mul_add,show n*(100*Tf k)=100*(n*Tf k) by ac_rfl];omega
 have hc2:n*(-(C+100*Tf k))≤n*(P - q):=by
  rw [e,Int.mul_neg,Int.mul_add,show n*(100*Tf k)=100*(n*Tf k) by ac_rfl];omega
 have d1:=Int.le_of_mul_le_mul_left hc1 (by omega);have d2:=Int.le_of_mul_le_mul_left hc2 (by omega);obtain⟨o,vo,lo,mo⟩:=fsub k hk hp vq (by omega) (by omega);have g1:n*(P - q - Tf k)≤n*o:=Int.mul_le_mul_of_nonneg_left lo (by omega);have g2:n*o≤n*(P - q+Tf k):=Int.mul_le_mul_of_nonneg_left mo (by omega);rw [Int.mul_sub,e] at g1;rw [Int.mul_add,e] at g2;exact⟨o,vo,by omega⟩
theorem q25_v:Vl .f32 (cz .f32 1048576000) (8*U144):=x9 (by decide +kernel)
theorem q5_v:Vl .f32 (cz .f32 1056964608) (16*U144):=x9 (by decide +kernel)
theorem zed (k:Nat) (hk:k≤60) {a b c:Nat} {x y z M:Int} (ha:Vl .f32 a x) (hb:Vl .f32 b y) (hc:Vl .f32 c z) (hx:Lim M x) (hy:Lim M y) (hz:Lim M z) (hM:M+20*Tf k≤16700000*Tf k) :
  ∃ o,Vl .f32 (coE a b c) o∧Lim (256*Tf k) (32*o - 8*(x+2*y+z))∧Lim (M+8*Tf k) o:=by
 have hT:=wK k;unfold Lim at *;obtain⟨t1,v1,l1⟩:=jy k hk q25_v ha (by unfold Lim;omega);obtain⟨t2,v2,l2⟩:=jy k hk q5_v hb (by unfold Lim;omega);obtain⟨t3,v3,l3⟩:=jy k hk q25_v hc (by unfold Lim;omega);unfold Lim at l1 l2 l3;obtain⟨s1,w1,k1,m1⟩:=fadd k hk v1 v2 (by omega) (by omega);obtain⟨o,wo,ko,mo⟩:=fadd k hk w1 v3 (by omega) (by omega);exact⟨o,wo,by omega,by omega⟩
theorem Jn (k:Nat) (hk:k≤60) {a b:Nat} {x y M:Int} (ha:Vl .f32 a x) (hb:Vl .f32 b y) (hx:Lim M x) (hy:Lim M y) (hM:2*M+20*Tf k≤16700000*Tf k) :
  ∃ o,Vl .f32 (hfW (fop .add .f32 a b)) o∧Lim (160*Tf k) (64*o - 32*(x+y))∧Lim (M+3*Tf k) o:=by
 have hT:=wK k;unfold Lim at *;obtain⟨s1,w1,k1,m1⟩:=fadd k hk ha hb (by omega) (by omega);obtain⟨o,vo,lo⟩:=X0 k hk w1 (by unfold Lim;omega);unfold Lim at lo;exact⟨o,vo,by omega,by omega⟩
def VS:List Nat→List Int→List Int→Prop
 | w::ws,U::Us,e::es=>Vl .f32 w (U+e)∧VS ws Us es
 | [],[],[]=>True
 | _,_,_=>False
theorem qD {Us es:List Int} (h:VS [] Us es):Us=[]∧es=[]:=by
 cases Us<;>cases es<;>first|exact⟨rfl,rfl⟩|exact h.elim
theorem uh {w:Nat} {ws:List Nat} {Us es:List Int} (h:VS (w::ws) Us es):∃ U Us' e es',Us=U::Us'∧es=e::es'∧Vl .f32 w (U+e)∧VS ws Us' es':=by
 cases Us<;>cases es<;>first|exact h.elim|exact⟨_,_,_,_,rfl,rfl,h.1,h.2⟩
theorem KJ {ws:List Nat} {Us es:List Int} (h:VS ws Us es):Vl .f32 (ws.headD 0) (Us.headD 0+es.headD 0):=by
 cases ws with
 | nil=>obtain⟨rfl,rfl⟩:=qD h;exact x9 (by decide +kernel)
 | cons w ws=>obtain⟨U,Us',e,es',rfl,rfl,h1,h2⟩:=uh h;exact h1
theorem vE : ∀ {ws : List Nat} {Us es : List Int}, VS ws Us es → pAll ws = true
  | [], _, _, _ => rfl
  | w :: ws, Us, es, h => by
    obtain ⟨U, Us', e, es', rfl, rfl, h1, h2⟩ := uh h
    rw [UT, vl_fin h1, vE h2]; rfl
theorem qE : ∀ {ws : List Nat} {Us es : List Int}, VS ws Us es → Us.length = ws.length ∧ es.length = ws.length
  | [], _, _, h => by obtain ⟨rfl, rfl⟩ := qD h; exact ⟨rfl, rfl⟩
  | w :: ws, Us, es, h => by
    obtain ⟨U, Us', e, es', rfl, rfl, h1, h2⟩ := uh h
    have := qE h2
    simp only [List.length_cons]; omega
def AllL (M:Int) (l:List Int):Prop:=∀ x∈l,Lim M x
theorem AllL.head {M:Int} {l:List Int} (h:AllL M l) (h0:0≤M):Lim M (l.headD 0):=by
 cases l with
 | nil=>unfold Lim;simp;exact h0
 | cons x l=>exact h x (List.mem_cons_self ..)
theorem AllL.tl {M x:Int} {l:List Int} (h:AllL M (x::l)):AllL M l:=fun y hy=>h y (List.mem_cons_of_mem _ hy)
theorem AllL.hd {M x:Int} {l:List Int} (h:AllL M (x::l)):Lim M x:=h x (List.mem_cons_self ..)
theorem AllL.cons {M x:Int} {l:List Int} (h:Lim M x) (k:AllL M l):AllL M (x::l):=fun y hy=>by
 rcases List.mem_cons.1 hy with rfl|hy
 ·exact h
 ·exact k y hy
theorem AllL.nil (M:Int):AllL M []:=fun _ h=>by cases h
theorem AllL.up {M N:Int} {l:List Int} (h:AllL M l) (hm:M≤N):AllL N l:=fun y hy=>by
 have:=h y hy;unfold Lim at *;omega
def AllN (n Q:Int) (l:List Int):Prop:=∀ x∈l,Lim (32*Q) (n*x)
theorem AllN.tl {n Q x:Int} {l:List Int} (h:AllN n Q (x::l)):AllN n Q l:=fun y hy=>h y (List.mem_cons_of_mem _ hy)
theorem AllN.hd {n Q x:Int} {l:List Int} (h:AllN n Q (x::l)):Lim (32*Q) (n*x):=h x (List.mem_cons_self ..)
def Eqn (n:Int):Int→List Int→List Int→Prop
 | l,u::us,p::ps=>64*u=n*p+32*l+32*us.headD 0∧Eqn n u us ps
 | _,[],[]=>True
 | _,_,_=>False
theorem KL (k : Nat) (hk : k ≤ 60) {w : Nat} {n PU MU Q M : Int} (hw : Vl .f32 w (n * U144)) (hMU : 0 ≤ MU) (hQ : 0 ≤ Q) (hM : 0 ≤ M) (hs : PU + Q + (MU + (M + Q + 8 * Tf k)) + (MU + M) + 20 * Tf k ≤ 16700000 * Tf k) :
    ∀ (us ps : List Nat) (Us Fs es fs : List Int) (l : Nat) (L0 l' : Int), Vl .f32 l (L0 + l') → Lim MU L0 → Lim (M + Q + 8 * Tf k) l' → VS us Us es → VS ps Fs fs → Eqn n L0 Us Fs → AllL MU Us → AllL M es → AllN n PU Fs → AllN n Q fs →
      ∃ os, VS (swW w l ps us) Us os ∧ SwN n (268 * Tf k) l' fs es os ∧ AllL (M + Q + 8 * Tf k) os
  | [], ps, Us, Fs, es, fs, l, L0, l', hl, hL, hl', hu, hp, he, hU, hE, hF, hf => by
    obtain ⟨rfl, rfl⟩ := qD hu
    cases Fs with
    | cons _ _ => exact he.elim
    | nil =>
      cases ps with
      | cons _ _ => obtain ⟨_, _, _, _, c, _⟩ := uh hp; cases c
      | nil =>
        obtain ⟨_, rfl⟩ := qD hp
        exact ⟨[], trivial, trivial, AllL.nil _⟩
  | u :: us, ps, Us, Fs, es, fs, l, L0, l', hl, hL, hl', hu, hp, he, hU, hE, hF, hf => by
    obtain ⟨U, Us, e, es, rfl, rfl, hu1, hu2⟩ := uh hu
    cases ps with
    | nil => obtain ⟨rfl, rfl⟩ := qD hp; exact he.elim
    | cons p ps =>
      obtain ⟨F, Fs, f, fs, rfl, rfl, hp1, hp2⟩ := uh hp
      have hT := wK k
      have hr := KJ hu2
      have b1 := hF.hd
      have b2 := hf.hd
      have b3 := hU.tl.head hMU
      have b4 := hE.tl.head hM
      have e1 := he.1
      have hd : n * (F + f) = n * F + n * f := Int.mul_add _ _ _
      obtain ⟨o, vo, lo⟩ := zeb k hk (A := PU + Q) (B := MU + (M + Q + 8 * Tf k)) (C := MU + M) hw hp1 hl hr (by rw [hd]; unfold Lim at *; omega) (by unfold Lim at *; omega) (by unfold Lim at *; omega) hs
      rw [hd] at lo
      have hlim : Lim (M + Q + 8 * Tf k) (o - U) := by unfold Lim at *; omega
      obtain ⟨os, k1, k2, k3⟩ := KL k hk hw hMU hQ hM hs us ps Us Fs es fs _ U (o - U) (by rw [show U + (o - U) = o by omega]; exact vo) hU.hd hlim hu2 hp2 he.2 hU.tl hE.tl hF.tl hf.tl
      refine ⟨(o - U) :: os, ⟨by rw [show U + (o - U) = o by omega]; exact vo, k1⟩, ⟨?_, k2⟩, AllL.cons hlim k3⟩
      unfold Lim at *; omega
def VZ (ws:List Nat) (es:List Int):Prop:=VS ws (zs es.length) es
theorem kL {es:List Int} (h:VZ [] es):es=[]:=(qD h).2
theorem vP {w:Nat} {ws:List Nat} {es:List Int} (h:VZ (w::ws) es):∃ e es',es=e::es'∧Vl .f32 w e∧VZ ws es':=by
 cases es with
 | nil=>obtain⟨_,_,_,_,_,c,_⟩:=uh h;cases c
 | cons e es=>exact⟨e,es,rfl,by have:=h.1;rw [Int.zero_add] at this;exact this,h.2⟩
theorem ZY {w:Nat} {ws:List Nat} {e:Int} {es:List Int} (h:Vl .f32 w e) (k:VZ ws es):VZ (w::ws) (e::es):=⟨by rw [Int.zero_add];exact h,k⟩
theorem Yk {ws:List Nat} {es:List Int} (h:VZ ws es):es.length=ws.length:=(qE h).2
theorem uG {ws:List Nat} {es:List Int} (h:VZ ws es):pAll ws=true:=vE h
theorem kOf_V {n T X Y:Int} (hT:0≤T) (hn:n=2∨n=8∨n=32) (h:Lim (3*(n*T)+128*T) (X - Y)):Lim (268*T) (kOf n*X - kOf n*Y):=by
 unfold Lim at *;rcases hn with rfl|rfl|rfl
 ·rw [show kOf 2=2 from rfl];omega
 ·rw [show kOf 8=1 from rfl];omega
 ·rw [show kOf 32=1 from rfl];omega
def ResB (n C:Int):Int→List Int→List Int→Prop
 | l,f::fs,e::es=>Lim C (n*f - 32*(2*e - l - es.headD 0))∧ResB n C e fs es
 | _,[],[]=>True
 | _,_,_=>False
theorem Jo {n Q M : Int} (hM : 0 ≤ M) : ∀ {fs es : List Int} {l : Int}, fs.length = es.length → Lim M l → AllN n Q fs → AllL M es → ResB n (32 * Q + 128 * M) l fs es
  | [], [], _, _, _, _, _ => trivial
  | f :: fs, e :: es, l, hl, hL, hf, he => by
    have b1 := hf.hd
    have b2 := he.hd
    have b3 := he.tl.head hM
    exact ⟨by unfold Lim at *; omega, Jo hM (by simpa using hl) b2 hf.tl he.tl⟩
theorem KM {n V Mo Mn : Int} (h0 : 0 ≤ Mo) (h1 : 0 ≤ Mn) : ∀ {fs us os : List Int} {l : Int}, SwN n V l fs us os → AllL Mo us → AllL Mn os → ResB n (V + 32 * (Mo + Mn)) l fs os
  | [], [], [], _, _, _, _ => trivial
  | f :: fs, u :: us, o :: os, l, h, hu, ho => by
    have b1 := hu.tl.head h0
    have b2 := ho.tl.head h1
    have b3 := h.1
    exact ⟨by unfold Lim at *; omega, KM h0 h1 h.2 hu.tl ho.tl⟩
  | [], [], _ :: _, _, h, _, _ => h.elim
  | [], _ :: _, _, _, h, _, _ => h.elim
  | _ :: _, [], _, _, h, _, _ => h.elim
  | _ :: _, _ :: _, [], _, h, _, _ => h.elim
theorem Un (k : Nat) (hk : k ≤ 60) {w : Nat} {n PU MU Q M A C C0 R : Int} (hw : Vl .f32 w (n * U144)) (hn : n = 2 ∨ n = 8 ∨ n = 32) (hMU : 0 ≤ MU) (hM : 0 ≤ M) (hA : 32 * PU + 32 * Q + C0 ≤ 32 * A) (hC : C0 ≤ n * C) (hR : C0 + 3 * (n * Tf k) + 128 * Tf k ≤ n * R)
    (h1 : 3 * (MU + M) + 20 * Tf k ≤ 16700000 * Tf k) (h2 : 32 * A + 200 * Tf k ≤ 4194304 * (n * Tf k)) (h3 : C + 100 * Tf k ≤ 16700000 * Tf k) (h4 : A + 20 * Tf k ≤ 16700000 * Tf k) :
    ∀ (us ps : List Nat) (Us Fs es fs : List Int) (l : Nat) (L0 l' : Int), Vl .f32 l (L0 + l') → Lim MU L0 → Lim M l' → VS us Us es → VS ps Fs fs → Eqn n L0 Us Fs → AllL MU Us → AllL M es → AllN n PU Fs → AllN n Q fs → ResB n C0 l' fs es →
      ∃ os, VZ (rsW w l us ps) os ∧ RsN n (268 * Tf k) l' fs es os ∧ AllL R os
  | [], ps, Us, Fs, es, fs, l, L0, l', hl, hL, hl', hu, hp, he, hU, hE, hF, hf, hr => by
    obtain ⟨rfl, rfl⟩ := qD hu
    cases Fs with
    | cons _ _ => exact he.elim
    | nil =>
      cases ps with
      | cons _ _ => obtain ⟨_, _, _, _, c, _⟩ := uh hp; cases c
      | nil =>
        obtain ⟨_, rfl⟩ := qD hp
        exact ⟨[], trivial, trivial, AllL.nil _⟩
  | u :: us, ps, Us, Fs, es, fs, l, L0, l', hl, hL, hl', hu, hp, he, hU, hE, hF, hf, hres => by
    obtain ⟨U, Us, e, es, rfl, rfl, hu1, hu2⟩ := uh hu
    cases ps with
    | nil => obtain ⟨rfl, rfl⟩ := qD hp; exact he.elim
    | cons p ps =>
      obtain ⟨F, Fs, f, fs, rfl, rfl, hp1, hp2⟩ := uh hp
      have hT := wK k
      have hr := KJ hu2
      have b1 := hF.hd
      have b2 := hf.hd
      have b3 := hU.tl.head hMU
      have b4 := hE.tl.head hM
      have b5 := hU.hd
      have b6 := hE.hd
      have b7 := hres.1
      have e1 := he.1
      have hd : n * (F + f) = n * F + n * f := Int.mul_add _ _ _
      have hn2 : 2 ≤ n := by omega
      obtain ⟨o, vo, lo⟩ := zec k hk (A := A) (B := MU + M) (C := C) hn2 hw hp1 hl hu1 hr (by unfold Lim at *; omega) (by unfold Lim at *; omega) (by unfold Lim at *; omega) (by unfold Lim at *; omega) (by rw [hd]; unfold Lim at *; omega) h1 h2 h3 h4
      rw [hd] at lo
      have lo' : Lim (3 * (n * Tf k) + 128 * Tf k) (n * o - (n * f - 32 * (2 * e - l' - es.headD 0))) := by unfold Lim at *; omega
      have q1 : n * o ≤ n * R := by unfold Lim at *; omega
      have q2 : n * (-R) ≤ n * o := by rw [Int.mul_neg]; unfold Lim at *; omega
      obtain ⟨os, k1, k2, k3⟩ := Un k hk hw hn hMU hM hA hC hR h1 h2 h3 h4 us ps Us Fs es fs u U e hu1 b5 b6 hu2 hp2 he.2 hU.tl hE.tl hF.tl hf.tl hres.2
      exact ⟨o :: os, ZY vo k1, ⟨kOf_V (by omega) hn lo', k2⟩, AllL.cons ⟨Int.le_of_mul_le_mul_left q2 (by omega), Int.le_of_mul_le_mul_left q1 (by omega)⟩ k3⟩
theorem KN (k : Nat) (hk : k ≤ 60) {M : Int} (hM : M + 20 * Tf k ≤ 16700000 * Tf k) : ∀ (m : Nat) (l : List Nat) (es : List Int), l.length = 2 * m + 1 → VZ l es → AllL M es → ∃ cs, VZ (coW l) cs ∧ CoN (268 * Tf k) es cs ∧ AllL (M + 8 * Tf k) cs
  | 0, [a], es, _, hv, _ => by
    obtain ⟨e, es, rfl, h1, h2⟩ := vP hv
    obtain rfl := kL h2
    exact ⟨[], trivial, trivial, AllL.nil _⟩
  | m + 1, a :: b :: c :: r, es, hl, hv, ha => by
    obtain ⟨x, es, rfl, h1, hv2⟩ := vP hv
    obtain ⟨y, es, rfl, h2, hv3⟩ := vP hv2
    have hT := wK k
    obtain ⟨cs, k1, k2, k3⟩ := KN k hk hM m (c :: r) es (by simp at hl ⊢; omega) hv3 ha.tl.tl
    obtain ⟨z, es, rfl, h3, hv4⟩ := vP hv3
    obtain ⟨o, vo, lo, mo⟩ := zed k hk h1 h2 h3 ha.hd ha.tl.hd ha.tl.tl.hd hM
    exact ⟨o :: cs, ZY vo k1, ⟨by unfold Lim at *; omega, k2⟩, AllL.cons mo k3⟩
  | m + 1, [_], _, h, _, _ => by simp at h
  | m + 1, [_, _], _, h, _, _ => by simp at h; omega
  | 0, _ :: _ :: _, _, h, _, _ => by simp at h
theorem Uo (k : Nat) (hk : k ≤ 60) {M : Int} (hM0 : 0 ≤ M) (hM : 2 * M + 20 * Tf k ≤ 16700000 * Tf k) : ∀ (l : List Nat) (es : List Int) (p : Nat) (L : Int), Vl .f32 p L → Lim M L → VZ l es → AllL M es → ∃ os, VZ (reW p l) os ∧ ReN (268 * Tf k) L es os ∧ AllL (M + 3 * Tf k) os
  | [], es, p, L, hp, hL, hv, ha => by
    obtain rfl := kL hv
    have hT := wK k
    obtain ⟨o, vo, lo, mo⟩ := Jn k hk hp (x9 (by decide +kernel) : Vl .f32 0 0) hL (by unfold Lim; omega) hM
    exact ⟨[o], ZY vo trivial, by show Lim _ _; unfold Lim at *; omega, AllL.cons mo (AllL.nil _)⟩
  | x :: l, es, p, L, hp, hL, hv, ha => by
    obtain ⟨e, es, rfl, h1, h2⟩ := vP hv
    have hT := wK k
    obtain ⟨o, vo, lo, mo⟩ := Jn k hk hp h1 hL ha.hd hM
    obtain ⟨os, k1, k2, k3⟩ := Uo k hk hM0 hM l es x e h1 ha.hd h2 ha.tl
    exact ⟨o :: e :: os, ZY vo (ZY h1 k1), ⟨by unfold Lim at *; omega, rfl, k2⟩, AllL.cons mo (AllL.cons (by have := ha.hd; unfold Lim at *; omega) k3)⟩
theorem KO (k : Nat) (hk : k ≤ 60) {MU M N : Int} (hs : MU + M + N + 20 * Tf k ≤ 16700000 * Tf k) : ∀ (us bs : List Nat) (Us es fs : List Int), VS us Us es → VZ bs fs → bs.length = us.length → AllL MU Us → AllL M es → AllL N fs → ∃ os, VS (adW us bs) Us os ∧ AdN (268 * Tf k) es fs os ∧ AllL (M + N + Tf k) os
  | [], [], Us, es, fs, hu, hb, _, hU, hE, hF => by
    obtain ⟨rfl, rfl⟩ := qD hu
    obtain rfl := kL hb
    exact ⟨[], trivial, trivial, AllL.nil _⟩
  | u :: us, b :: bs, Us, es, fs, hu, hb, hl, hU, hE, hF => by
    obtain ⟨U, Us, e, es, rfl, rfl, hu1, hu2⟩ := uh hu
    obtain ⟨f, fs, rfl, hb1, hb2⟩ := vP hb
    have hT := wK k
    have b1 := hU.hd
    have b2 := hE.hd
    have b3 := hF.hd
    obtain ⟨o, vo, l1, l2⟩ := fadd k hk hu1 hb1 (by unfold Lim at *; omega) (by unfold Lim at *; omega)
    obtain ⟨os, k1, k2, k3⟩ := KO k hk hs us bs Us es fs hu2 hb2 (by simpa using hl) hU.tl hE.tl hF.tl
    exact ⟨(o - U) :: os, ⟨by rw [show U + (o - U) = o by omega]; exact vo, k1⟩, ⟨by unfold Lim at *; omega, k2⟩, AllL.cons (by unfold Lim at *; omega) k3⟩
def smB (Q T:Int):Nat→Int→Int
 | 0,M=>M
 | k+1,M=>smB Q T k (M+Q+8*T)
theorem XC {Q T:Int} (hQ:0≤Q) (hT:0≤T):∀ (k:Nat) (M:Int),M≤smB Q T k M
 | 0,_=>Int.le_refl _
 | k+1,M=>by have:=XC hQ hT k (M+Q+8*T);rw [smB];omega
theorem X3 (k : Nat) (hk : k ≤ 60) {w : Nat} {n PU MU Q : Int} (hw : Vl .f32 w (n * U144)) (hMU : 0 ≤ MU) (hQ : 0 ≤ Q) {ps : List Nat} {Us Fs fs : List Int} (hp : VS ps Fs fs) (he : Eqn n 0 Us Fs) (hU : AllL MU Us) (hF : AllN n PU Fs) (hf : AllN n Q fs) :
    ∀ (t : Nat) (us : List Nat) (es : List Int) (M : Int), 0 ≤ M → PU + Q + 2 * MU + 2 * smB Q (Tf k) t M + 20 * Tf k ≤ 16700000 * Tf k → VS us Us es → AllL M es →
      ∃ os, VS (smW w ps t us) Us os ∧ SmN n (268 * Tf k) fs t es os ∧ AllL (smB Q (Tf k) t M) os ∧ (1 ≤ t → ResB n (268 * Tf k + 64 * smB Q (Tf k) t M) 0 fs os)
  | 0, us, es, M, _, _, hu, hE => ⟨es, hu, rfl, hE, fun c => absurd c (by omega)⟩
  | t + 1, us, es, M, hM, hs, hu, hE => by
    have hT := wK k
    rw [smB] at hs
    have hle := XC hQ (show 0 ≤ Tf k by omega) t (M + Q + 8 * Tf k)
    obtain ⟨os, k1, k2, k3⟩ := KL k hk hw hMU hQ hM (by omega) us ps Us Fs es fs 0 0 0 (x9 (by decide +kernel)) (by unfold Lim; omega) (by unfold Lim; omega) hu hp he hU hE hF hf
    obtain ⟨os2, m1, m2, m3, m4⟩ := X3 k hk hw hMU hQ hp he hU hF hf t _ os (M + Q + 8 * Tf k) (by omega) hs k1 k3
    refine ⟨os2, m1, ⟨os, k2, m2⟩, m3, fun _ => ?_⟩
    cases t with
    | zero =>
      obtain rfl : os = os2 := m2
      have := KM (Mo := M + Q + 8 * Tf k) (Mn := M + Q + 8 * Tf k) (by omega) (by omega) k2 (hE.up (by omega)) k3
      rw [show 268 * Tf k + 32 * (M + Q + 8 * Tf k + (M + Q + 8 * Tf k)) = 268 * Tf k + 64 * (M + Q + 8 * Tf k) by omega] at this
      exact this
    | succ t => exact m4 (by omega)
def StOk:Nat→Nat→Int→Prop
 | 0,s,n=>Vl .f32 (fop .mul .f32 s s) (n*U144)∧x8 s=true∧0<n∧∃ h,n=2*h∧Vl .f32 (fop .mul .f32 (fop .mul .f32 (cz .f32 1056964608) s) s) (h*U144)
 | d+1,s,n=>Vl .f32 (fop .mul .f32 s s) (n*U144)∧x8 s=true∧(n=2∨n=8∨n=32)∧StOk d (twW s) (4*n)
def Lm (T:Int):Int:=16700000*T
def cyB (T : Int) (a b : Nat) : Nat → Int → Int → Int → Int → Int → Option Int
  | 0, n, _, _, F, _ => if n * F ≤ 500000000 * T then some ((n * F + 192 * T) / 64 + 1) else none
  | d + 1, n, PU, MU, F, M =>
    if PU + (n * F / 32 + 1) + 2 * MU + 2 * smB (n * F / 32 + 1) T a M + 20 * T ≤ Lm T ∧ 3 * (MU + smB (n * F / 32 + 1) T a M) + 20 * T ≤ Lm T ∧ 32 * (PU + (n * F / 32 + 1) + ((268 * T + 64 * smB (n * F / 32 + 1) T a M) / 32 + 1)) + 200 * T ≤ 4194304 * (n * T) ∧
      (268 * T + 64 * smB (n * F / 32 + 1) T a M) / n + 1 + 100 * T ≤ Lm T ∧ PU + (n * F / 32 + 1) + ((268 * T + 64 * smB (n * F / 32 + 1) T a M) / 32 + 1) + 20 * T ≤ Lm T ∧ ((268 * T + 64 * smB (n * F / 32 + 1) T a M) + 3 * (n * T) + 128 * T) / n + 1 + 20 * T ≤ Lm T then
      (cyB T a b d (4 * n) 0 0 (((268 * T + 64 * smB (n * F / 32 + 1) T a M) + 3 * (n * T) + 128 * T) / n + 1 + 8 * T) 0).bind fun E =>
        if 2 * E + 20 * T ≤ Lm T ∧ MU + smB (n * F / 32 + 1) T a M + (E + 3 * T) + 20 * T ≤ Lm T ∧ PU + (n * F / 32 + 1) + 2 * MU + 2 * smB (n * F / 32 + 1) T b (smB (n * F / 32 + 1) T a M + (E + 3 * T) + T) + 20 * T ≤ Lm T then some (smB (n * F / 32 + 1) T b (smB (n * F / 32 + 1) T a M + (E + 3 * T) + T)) else none
    else none
theorem Uq {n x:Int} (hn:0<n):x≤n*(x / n+1):=by
 have h1:=Int.mul_ediv_add_emod x n;have h2:=Int.emod_lt_of_pos x hn;rw [Int.mul_add];omega
theorem AllN_of {n F:Int} (hn:0≤n) {l:List Int} (h:AllL F l):AllN n (n*F / 32+1) l:=fun x hx=>by
 obtain⟨h1,h2⟩:=h x hx;have g1:=Int.mul_le_mul_of_nonneg_left h1 hn;have g2:=Int.mul_le_mul_of_nonneg_left h2 hn;rw [Int.mul_neg] at g1;unfold Lim;omega
theorem WG:∀ m,VZ (List.replicate m 0) (zs m)
 | 0=>trivial
 | m+1=>ZY (x9 (by decide +kernel)) (WG m)
theorem UW (n:Int):∀ m,Eqn n 0 (zs m) (zs m)
 | 0=>trivial
 | m+1=>⟨by cases m<;>simp [zs,List.replicate_succ],UW n m⟩
theorem Zk:∀ m,AllL 0 (zs m):=fun m x hx=>by
 rw [List.eq_of_mem_replicate hx];unfold Lim;omega
theorem Zl (n:Int) (m:Nat):AllN n 0 (zs m):=fun x hx=>by
 rw [List.eq_of_mem_replicate hx];unfold Lim;simp
theorem Jp (m:Nat):(zs m).length=m:=List.length_replicate
theorem KP {T : Int} (hT : 0 ≤ T) {a b : Nat} : ∀ (d : Nat) (n PU MU F M B : Int), 0 < n → 0 ≤ F → 0 ≤ M → cyB T a b d n PU MU F M = some B → 0 ≤ B
  | 0, n, PU, MU, F, M, B, hn, hF, hM, h => by
    rw [cyB] at h
    split at h
    · obtain rfl := Option.some.inj h
      have := Int.mul_nonneg (Int.le_of_lt hn) hF
      omega
    · cases h
  | d + 1, n, PU, MU, F, M, B, hn, hF, hM, h => by
    rw [cyB] at h
    split at h
    · obtain ⟨E, h1, h2⟩ := vC h
      split at h2
      · obtain rfl := Option.some.inj h2
        have hQ : 0 ≤ n * F / 32 + 1 := by have := Int.mul_nonneg (Int.le_of_lt hn) hF; omega
        have k1 := XC hQ hT a M
        have hR : 0 ≤ (268 * T + 64 * smB (n * F / 32 + 1) T a M + 3 * (n * T) + 128 * T) / n + 1 + 8 * T := by
          have := Int.mul_nonneg (Int.le_of_lt hn) hT
          have := Int.ediv_nonneg (a := 268 * T + 64 * smB (n * F / 32 + 1) T a M + 3 * (n * T) + 128 * T) (b := n) (by omega) (by omega)
          omega
        have k2 := KP hT d _ _ _ _ _ E (by omega) hR (Int.le_refl 0) h1
        have k3 := XC hQ hT b (smB (n * F / 32 + 1) T a M + (E + 3 * T) + T)
        omega
      · cases h2
    · cases h
theorem KQ (k : Nat) (hk : k ≤ 60) (im : Bool) (a b : Nat) (ha : 1 ≤ a) : ∀ (d s : Nat) (n PU MU F M B : Int) (us ps : List Nat) (Us Fs es fs : List Int), StOk d s n → cyB (Tf k) a b d n PU MU F M = some B → 0 ≤ MU → 0 ≤ F → 0 ≤ M → VS us Us es → VS ps Fs fs → Eqn n 0 Us Fs → AllL MU Us → AllN n PU Fs → AllL F fs → AllL M es →
    us.length = dl d → ps.length = dl d → (d = 0 → Us = [0] ∧ Fs = [0]) →
      ∃ os, VS (cyW im a b d s us ps) Us os ∧ CyN (268 * Tf k) a b d n fs es os ∧ AllL B os ∧ (im = true → XZ a b d s us ps)
  | 0, s, n, PU, MU, F, M, B, us, ps, Us, Fs, es, fs, hst, hB, hMU, hF0, hM0, hu, hp, he, hU, hFN, hF, hM, hul, hpl, hz => by
    obtain ⟨rfl, rfl⟩ := hz rfl
    obtain ⟨hw, hov, hn, h, rfl, hwh⟩ := hst
    have hT := wK k
    cases ps with
    | nil => simp [dl] at hpl
    | cons p ps =>
      obtain ⟨_, Fs', f, fs, e1, rfl, hp1, hp2⟩ := uh hp
      obtain ⟨rfl, rfl⟩ := List.cons.inj e1
      rw [Int.zero_add] at hp1
      rw [cyB] at hB
      split at hB
      · rename_i hlim
        obtain rfl := Option.some.inj hB
        obtain ⟨g1, g2⟩ := hF.hd
        have m1 := Int.mul_le_mul_of_nonneg_left g1 (Int.le_of_lt hn)
        have m2 := Int.mul_le_mul_of_nonneg_left g2 (Int.le_of_lt hn)
        rw [Int.mul_neg] at m1
        have hh : 2 * h * f = 2 * (h * f) := Int.mul_assoc _ _ _
        have key : ∃ x, Vl .f32 (botW im s p) x ∧ Lim (192 * Tf k) (64 * x - 2 * h * f) := by
          cases im with
          | true =>
            obtain ⟨x1, v1, l1⟩ := jy k hk hw hp1 (by unfold Lim; omega)
            obtain ⟨x, v, l⟩ := X0 k hk v1 (by unfold Lim at *; omega)
            exact ⟨x, v, by unfold Lim at *; omega⟩
          | false =>
            obtain ⟨x, v, l⟩ := jy k hk hwh hp1 (by unfold Lim; omega)
            exact ⟨x, v, by unfold Lim at *; omega⟩
        obtain ⟨x, vx, lx⟩ := key
        have hv : VS (cyW im a b 0 s us (p :: ps)) [0] [x] := ⟨by rw [Int.zero_add]; exact vx, trivial⟩
        refine ⟨[x], hv, ⟨x, rfl, by show Lim _ (64 * x - 2 * h * f); unfold Lim at *; omega⟩, AllL.cons (by unfold Lim at *; omega) (AllL.nil _), fun hi => ⟨hov, vE hu, vE hp, ?_⟩⟩
        subst hi
        exact vE hv
      · cases hB
  | d + 1, s, n, PU, MU, F, M, B, us, ps, Us, Fs, es, fs, hst, hB, hMU, hF0, hM0, hu, hp, he, hU, hFN, hF, hM, hul, hpl, hz => by
    obtain ⟨hw, hov, hn, hst'⟩ := hst
    have hT := wK k
    have hT0 : 0 ≤ Tf k := by omega
    have hn0 : 0 < n := by omega
    rw [cyB] at hB
    unfold Lm at hB
    split at hB
    · rename_i hc
      obtain ⟨c1, c2, c3, c4, c5, c6⟩ := hc
      obtain ⟨E, hE, h2⟩ := vC hB
      split at h2
      · rename_i hc2
        obtain ⟨c7, c8, c9⟩ := hc2
        have hBe := Option.some.inj h2
        have hQ : 0 ≤ n * F / 32 + 1 := by have := Int.mul_nonneg (Int.le_of_lt hn0) hF0; omega
        have hQN := AllN_of (Int.le_of_lt hn0) hF
        generalize hQe : n * F / 32 + 1 = Q at *
        have k1 := XC hQ hT0 a M
        generalize hM1 : smB Q (Tf k) a M = M1 at *
        obtain ⟨o, vo, so, bo, ro⟩ := X3 k hk hw hMU hQ hp he hU hFN hQN a us es M hM0 (by rw [hM1]; omega) hu hM
        rw [hM1] at bo ro
        have hres := ro ha
        have hC := Uq (x := 268 * Tf k + 64 * M1) hn0
        have hR := Uq (x := 268 * Tf k + 64 * M1 + 3 * (n * Tf k) + 128 * Tf k) hn0
        have hR0 : 0 ≤ (268 * Tf k + 64 * M1 + 3 * (n * Tf k) + 128 * Tf k) / n + 1 := by
          have := Int.mul_nonneg (Int.le_of_lt hn0) hT0
          have := Int.ediv_nonneg (a := 268 * Tf k + 64 * M1 + 3 * (n * Tf k) + 128 * Tf k) (b := n) (by omega) (by omega)
          omega
        have hA : 32 * PU + 32 * Q + (268 * Tf k + 64 * M1) ≤ 32 * (PU + Q + ((268 * Tf k + 64 * M1) / 32 + 1)) := by omega
        generalize PU + Q + ((268 * Tf k + 64 * M1) / 32 + 1) = A at *
        generalize (268 * Tf k + 64 * M1) / n + 1 = C at *
        generalize (268 * Tf k + 64 * M1 + 3 * (n * Tf k) + 128 * Tf k) / n + 1 = R at *
        obtain ⟨r, vr, sr, br⟩ := Un k hk hw hn hMU (show 0 ≤ M1 by omega) hA hC hR c2 c3 c4 c5 _ ps Us Fs o fs 0 0 0 (x9 (by decide +kernel)) (by unfold Lim; omega) (by unfold Lim; omega) vo hp he hU bo hFN hQN hres
        have e1 := jT (fop .mul .f32 s s) ps a us (by omega)
        have e2 := uW (fop .mul .f32 s s) (smW (fop .mul .f32 s s) ps a us) ps 0 (by omega)
        have hdl : dl (d + 1) = 2 * dl d + 1 := rfl
        obtain ⟨c, vc, sc, bc⟩ := KN k hk (M := R) (by omega) (dl d) _ r (by omega) vr br
        have e3 := Zu (dl d) (rsW (fop .mul .f32 s s) 0 (smW (fop .mul .f32 s s) ps a us) ps) (by omega)
        have e4 := Yk vc
        obtain ⟨e, ve, se, be, fe⟩ := KQ k hk im a b ha d (twW s) (4 * n) 0 0 (R + 8 * Tf k) 0 E (List.replicate (coW (rsW (fop .mul .f32 s s) 0 (smW (fop .mul .f32 s s) ps a us) ps)).length 0) _ (zs c.length) (zs c.length) (zs c.length) c hst' hE (Int.le_refl _) (by omega) (Int.le_refl _)
          (by have := WG (coW (rsW (fop .mul .f32 s s) 0 (smW (fop .mul .f32 s s) ps a us) ps)).length; unfold VZ at this; rw [Jp] at this; rw [e4]; exact this) vc (UW _ _) (Zk _) (Zl _ _) bc (Zk _) (by rw [List.length_replicate]; exact e3) e3 (fun hd => by subst hd; rw [e4, e3]; exact ⟨rfl, rfl⟩)
        have hE0 := KP hT0 d _ _ _ _ _ E (by omega) (by omega) (Int.le_refl 0) hE
        have e5 := Zw im a b d (twW s) (List.replicate (coW (rsW (fop .mul .f32 s s) 0 (smW (fop .mul .f32 s s) ps a us) ps)).length 0) (coW (rsW (fop .mul .f32 s s) 0 (smW (fop .mul .f32 s s) ps a us) ps)) (by rw [List.length_replicate]; exact e3) e3
        have hez : VZ (cyW im a b d (twW s) (List.replicate (coW (rsW (fop .mul .f32 s s) 0 (smW (fop .mul .f32 s s) ps a us) ps)).length 0) (coW (rsW (fop .mul .f32 s s) 0 (smW (fop .mul .f32 s s) ps a us) ps))) e := by
          unfold VZ
          have := (qE ve).2
          rw [show e.length = c.length by omega]; exact ve
        obtain ⟨f, vf, sf, bf⟩ := Uo k hk hE0 c7 _ e 0 0 (x9 (by decide +kernel)) (by unfold Lim; omega) hez be
        have e6 := jU (cyW im a b d (twW s) (List.replicate (coW (rsW (fop .mul .f32 s s) 0 (smW (fop .mul .f32 s s) ps a us) ps)).length 0) (coW (rsW (fop .mul .f32 s s) 0 (smW (fop .mul .f32 s s) ps a us) ps))) 0
        obtain ⟨o2, v2, s2, b2⟩ := KO k hk (MU := MU) (M := M1) (N := E + 3 * Tf k) (by omega) _ _ Us o f vo vf (by omega) hU bo bf
        obtain ⟨os, vs, ss, bs, _⟩ := X3 k hk hw hMU hQ hp he hU hFN hQN b _ o2 (M1 + (E + 3 * Tf k) + Tf k) (by omega) (by omega) v2 b2
        refine ⟨os, vs, ⟨o, r, c, e, f, o2, so, sr, sc, se, sf, s2, ss⟩, by rw [← hBe]; exact bs, fun hi => ?_⟩
        subst hi
        exact ⟨hov, vE hu, vE hp, vE vo, uG vr, uG vc, fe rfl, vE ve, uG vf, vE v2, vE vs⟩
      · cases h2
    · cases hB
theorem st_ok:∀ d,d≤3→StOk d (cz .f32 1048576000) 2:=by
 have a0:Vl .f32 (fop .mul .f32 (cz .f32 1048576000) (cz .f32 1048576000)) (2*U144):=x9 (by decide +kernel);have a1:Vl .f32 (fop .mul .f32 (twW (cz .f32 1048576000)) (twW (cz .f32 1048576000))) (8*U144):=x9 (by decide +kernel);have a2:Vl .f32 (fop .mul .f32 (twW (twW (cz .f32 1048576000))) (twW (twW (cz .f32 1048576000)))) (32*U144):=x9 (by decide +kernel);have a3:Vl .f32 (fop .mul .f32 (twW (twW (twW (cz .f32 1048576000)))) (twW (twW (twW (cz .f32 1048576000))))) (128*U144):=x9 (by decide +kernel);have b0:x8 (cz .f32 1048576000)=true:=by decide +kernel
 have b1:x8 (twW (cz .f32 1048576000))=true:=by decide +kernel
 have b2:x8 (twW (twW (cz .f32 1048576000)))=true:=by decide +kernel
 have b3:x8 (twW (twW (twW (cz .f32 1048576000))))=true:=by decide +kernel
 have c0:Vl .f32 (fop .mul .f32 (fop .mul .f32 (cz .f32 1056964608) (cz .f32 1048576000)) (cz .f32 1048576000)) (1*U144):=x9 (by decide +kernel);have c1:Vl .f32 (fop .mul .f32 (fop .mul .f32 (cz .f32 1056964608) (twW (cz .f32 1048576000))) (twW (cz .f32 1048576000))) (4*U144):=x9 (by decide +kernel);have c2:Vl .f32 (fop .mul .f32 (fop .mul .f32 (cz .f32 1056964608) (twW (twW (cz .f32 1048576000)))) (twW (twW (cz .f32 1048576000)))) (16*U144):=x9 (by decide +kernel);have c3:Vl .f32 (fop .mul .f32 (fop .mul .f32 (cz .f32 1056964608) (twW (twW (twW (cz .f32 1048576000))))) (twW (twW (twW (cz .f32 1048576000))))) (64*U144):=x9 (by decide +kernel);intro d hd
 match d,hd with
 | 0,_=>exact⟨a0,b0,by decide,1,rfl,c0⟩
 | 1,_=>exact⟨a0,b0,.inl rfl,a1,b1,by decide,4,rfl,c1⟩
 | 2,_=>exact⟨a0,b0,.inl rfl,a1,b1,.inr (.inl rfl),a2,b2,by decide,16,rfl,c2⟩
 | 3,_=>exact⟨a0,b0,.inl rfl,a1,b1,.inr (.inl rfl),a2,b2,.inr (.inr rfl),a3,b3,by decide,64,rfl,c3⟩
end Go.Proofs.Ytochgocgmeeppaa.G
namespace Go.Proofs.Ytochgocgmeeppaa.G
open Go Go.Ab
set_option maxRecDepth 100000
set_option maxHeartbeats 1000000
theorem bent {N : Nat} {y : Nat → Int} (h0 : y 0 = 0) (hN : y (N + 1) = 0) (hc : ∀ i, 1 ≤ i → i ≤ N → 0 ≤ 2 * y i - y (i - 1) - y (i + 1)) : ∀ i, i ≤ N + 1 → 0 ≤ y i := by
  intro i hi
  refine Int.not_lt.1 fun hneg => ?_
  have slope : ∃ j, j < i ∧ y (j + 1) - y j < 0 := by
    refine Classical.byContradiction fun hno => ?_
    have : ∀ j, j ≤ i → 0 ≤ y j := by
      intro j
      induction j with
      | zero => intro _; omega
      | succ j ih =>
        intro hj
        have h1 := ih (by omega)
        have h2 : ¬ (y (j + 1) - y j < 0) := fun c => hno ⟨j, by omega, c⟩
        omega
    have := this i (Nat.le_refl _)
    omega
  obtain ⟨j, hj, hs⟩ := slope
  have down : ∀ m, j + m ≤ N → y (j + m + 1) - y (j + m) < 0 := by
    intro m
    induction m with
    | zero => intro _; exact hs
    | succ m ih =>
      intro hm
      have h1 := ih (by omega)
      have h2 := hc (j + m + 1) (by omega) (by omega)
      rw [show j + m + 1 - 1 = j + m by omega] at h2
      rw [show j + (m + 1) = j + m + 1 by omega]; omega
  have fall : ∀ m, i + m ≤ N + 1 → y (i + m) < 0 := by
    intro m
    induction m with
    | zero => intro _; exact hneg
    | succ m ih =>
      intro hm
      have h1 := ih (by omega)
      have h2 := down (i + m - j) (by omega)
      rw [show j + (i + m - j) = i + m by omega] at h2
      rw [show i + (m + 1) = i + m + 1 by omega]; omega
  have := fall (N + 1 - i) (by omega)
  rw [show i + (N + 1 - i) = N + 1 by omega] at this
  omega
theorem arch {c:Int} {N i:Nat} (h1:1≤i) (h2:i≤N):2*(c*((i:Int)*(N+1 - i))) - c*(((i - 1:Nat):Int)*(N+1 - ((i - 1:Nat):Int))) - c*(((i+1:Nat):Int)*(N+1 - ((i+1:Nat):Int)))=2*c:=by
 obtain⟨j,rfl⟩:∃ j,i=j+1:=⟨i - 1,by omega⟩;obtain⟨m,rfl⟩:∃ m,N=j+1+m:=⟨N - (j+1),by omega⟩;rw [show j+1 - 1=j by omega];have a1:(((j+1:Nat):Int)*(((j+1+m:Nat):Int)+1 - ((j+1:Nat):Int)))=(j:Int)*m+j+m+1:=by
  rw [show ((j+1+m:Nat):Int)+1 - ((j+1:Nat):Int)=(m:Int)+1 by omega,show ((j+1:Nat):Int)=(j:Int)+1 by omega,Int.add_mul,Int.mul_add];omega
 have a2:((j:Int)*(((j+1+m:Nat):Int)+1 - (j:Int)))=(j:Int)*m+2*j:=by
  rw [show ((j+1+m:Nat):Int)+1 - (j:Int)=(m:Int)+2 by omega,Int.mul_add];omega
 have a3:(((j+1+1:Nat):Int)*(((j+1+m:Nat):Int)+1 - ((j+1+1:Nat):Int)))=(j:Int)*m+2*m:=by
  rw [show ((j+1+m:Nat):Int)+1 - ((j+1+1:Nat):Int)=(m:Int) by omega,show ((j+1+1:Nat):Int)=(j:Int)+2 by omega,Int.add_mul]
 rw [a1,a2,a3];simp only [Int.mul_add];have:c*1=c:=Int.mul_one c;have h2:c*(2*(j:Int))=2*(c*j):=by ac_rfl
 have h3:c*(2*(m:Int))=2*(c*m):=by ac_rfl
 omega
theorem bend_le {N:Nat} {x:Nat→Int} {c:Int} (h0:x 0=0) (hN:x (N+1)=0) (hc:∀ i,1≤i→i≤N→Lim c (2*x i - x (i - 1) - x (i+1))) (i:Nat) (hi:i≤N+1):Lim (c*((i:Int)*(N+1 - i))) (2*x i):=by
 have z1:c*(((0:Nat):Int)*(N+1 - ((0:Nat):Int)))=0:=by simp
 have z2:c*(((N+1:Nat):Int)*(N+1 - ((N+1:Nat):Int)))=0:=by
  rw [show ((N:Int)+1 - ((N+1:Nat):Int))=0 by omega];simp
 have a:=bent (N:=N) (y:=fun i=>c*((i:Int)*(N+1 - i)) - 2*x i) (by simp [h0]) (by simp only [z2,hN];omega) (fun i h1 h2=>by
  have:=arch (c:=c) h1 h2;have:=hc i h1 h2;unfold Lim at *;omega) i hi
 have b:=bent (N:=N) (y:=fun i=>c*((i:Int)*(N+1 - i))+2*x i) (by simp [h0]) (by simp only [z2,hN];omega) (fun i h1 h2=>by
  have:=arch (c:=c) h1 h2;have:=hc i h1 h2;unfold Lim at *;omega) i hi
 unfold Lim;omega
theorem top_le:∀ N:Nat,N<16→∀ i:Nat,i<17→i≤N+1→(i:Int)*((N:Int)+1 - i)≤64∧0≤(i:Int)*((N:Int)+1 - i):=by decide +kernel
def Bend (c:Int):Int→List Int→Prop
 | l,x::xs=>Lim c (2*x - l - xs.headD 0)∧Bend c x xs
 | _,[]=>True
theorem KR {c : Int} : ∀ (xs : List Int) (l : Int), Bend c l xs → ∀ i, i < xs.length → Lim c (2 * xs.getD i 0 - (if i = 0 then l else xs.getD (i - 1) 0) - xs.getD (i + 1) 0)
  | x :: xs, l, h, 0, _ => by
    have := h.1
    cases xs <;> simpa using this
  | x :: xs, l, h, i + 1, hi => by
    have := KR xs x h.2 i (by simpa using hi)
    cases i with
    | zero => simpa using this
    | succ i => simpa using this
theorem WH {c:Int} {xs:List Int} (hc:0≤c) (h:Bend c 0 xs) (hl:xs.length≤15):AllL (32*c) xs:=by
 intro x hx;obtain⟨i,hi,rfl⟩:=List.getElem_of_mem hx;have key:=bend_le (N:=xs.length) (x:=fun i=>if i=0 then 0 else xs.getD (i - 1) 0) (c:=c) rfl (by simp [List.getD_eq_getElem?_getD]) (fun j h1 h2=>by
  have:=KR xs 0 h (j - 1) (by omega);obtain⟨m,rfl⟩:∃ m,j=m+1:=⟨j - 1,by omega⟩;simp only [Nat.add_sub_cancel] at this ⊢
  simpa using this) (i+1) (by omega)
 simp only [Nat.add_sub_cancel,if_neg (Nat.succ_ne_zero i)] at key;rw [gD hi] at key;obtain⟨t1,t2⟩:=top_le xs.length (by omega) (i+1) (by omega) (by omega);have m1:=Int.mul_le_mul_of_nonneg_left t1 hc;unfold Lim at *;omega
def genU (h:Int):Int→Int→List Int→List Int
 | _,_,[]=>[]
 | a,b,q::qs=>b::genU h b (2*b - a - h*q) qs
def ZZ (h:Int):Int→Int→List Int→Int
 | _,b,[]=>b
 | a,b,q::qs=>ZZ h b (2*b - a - h*q) qs
def wsum:List Int→Int
 | []=>0
 | q::qs=>((qs.length:Int)+1)*q+wsum qs
theorem KS (h : Int) : ∀ (qs : List Int) (a b : Int), ZZ h a b qs = b + (qs.length : Int) * (b - a) - h * wsum qs
  | [], a, b => by simp [ZZ, wsum]
  | q :: qs, a, b => by
    rw [ZZ, KS h qs, wsum, List.length_cons]
    have e1 : h * (((qs.length : Int) + 1) * q + wsum qs) = (qs.length : Int) * (h * q) + h * q + h * wsum qs := by
      rw [Int.mul_add, Int.add_mul, Int.one_mul, Int.mul_add, show h * ((qs.length : Int) * q) = (qs.length : Int) * (h * q) by ac_rfl]
    rw [e1, show 2 * b - a - h * q - b = (b - a) - h * q by omega, Int.mul_sub, show (((qs.length + 1 : Nat) : Int)) = (qs.length : Int) + 1 by omega, Int.add_mul]
    omega
theorem Jq (h:Int):∀ (qs:List Int) (a b:Int),(genU h a b qs).length=qs.length
 | [],_,_=>rfl
 | q::qs,a,b=>by rw [genU,List.length_cons,List.length_cons,Jq h qs]
theorem UX (h a b:Int) (qs:List Int) (hl:ZZ h a b qs=0):(genU h a b qs).headD 0=b:=by
 cases qs with
 | nil=>exact hl.symm
 | cons q qs=>rfl
theorem Jr (h : Int) : ∀ (qs : List Int) (a b : Int), ZZ h a b qs = 0 → Eqn 2 a (genU h a b qs) (qs.map fun q => 16 * (h * q))
  | [], _, _, _ => trivial
  | q :: qs, a, b, hl => by
    refine ⟨?_, Jr h qs b _ hl⟩
    show 64 * b = 2 * (16 * (h * q)) + 32 * a + 32 * (genU h b (2 * b - a - h * q) qs).headD 0
    rw [UX h b _ qs hl]; omega
theorem UY {h c : Int} : ∀ (qs : List Int) (a b : Int), ZZ h a b qs = 0 → (∀ q ∈ qs, Lim c (h * q)) → Bend c a (genU h a b qs)
  | [], _, _, _, _ => trivial
  | q :: qs, a, b, hl, hq => by
    refine ⟨?_, UY qs b _ hl fun x hx => hq x (List.mem_cons_of_mem _ hx)⟩
    rw [UX h b _ qs hl, show 2 * b - a - (2 * b - a - h * q) = h * q by omega]
    exact hq q (List.mem_cons_self ..)
theorem zee (y:Int) (qs:List Int):ZZ (((qs.length:Int)+1)*y) 0 (y*wsum qs) qs=0:=by
 rw [KS,Int.sub_zero,Int.mul_assoc,Int.add_mul];omega
end Go.Proofs.Ytochgocgmeeppaa.G
namespace Go.Proofs.Ytochgocgmeeppaa.G
open Go Go.Ab
set_option maxRecDepth 100000
set_option maxHeartbeats 1000000
set_option exponentiation.threshold 4000
def dW:Nat→Nat
 | 0=>cz .f32 1073741824
 | i+1=>fop .add .f32 (cz .f32 1073741824) (mq (dW i))
def gW (f:List Nat) (s:Nat):Nat→Nat
 | 0=>force s (f.getD 0 0)
 | i+1=>fop .sub .f32 (force s (f.getD (i+1) 0)) (fop .mul .f32 (mq (dW i)) (gW f s i))
theorem zc0 (a:List Nat) (x i:Nat) (h:i<a.length):(a++[x]).getD i 0=a.getD i 0:=by
 rw [List.getD_eq_getElem?_getD,List.getD_eq_getElem?_getD,List.getElem?_append_left h]
theorem zc1 (a:List Nat) (x i:Nat) (h:i=a.length):(a++[x]).getD i 0=x:=by
 subst h;simp [List.getD_eq_getElem?_getD]
theorem fw_at (f : List Nat) (s : Nat) : ∀ n i, i < n → (fw f s n).1.getD i 0 = gW f s i ∧ (fw f s n).2.getD i 0 = dW i
  | 0, _, h => absurd h (by omega)
  | n + 1, i, h => by
    obtain ⟨k1, k2⟩ := Yj f s n
    rw [fw]
    split
    · rename_i h0; subst h0
      obtain rfl : i = 0 := by omega
      exact ⟨rfl, rfl⟩
    · rename_i h0
      simp only
      by_cases c : i < n
      · rw [zc0 _ _ _ (by omega), zc0 _ _ _ (by omega)]; exact fw_at f s n i c
      · obtain rfl : i = n := by omega
        rw [zc1 _ _ _ k1.symm, zc1 _ _ _ k2.symm]
        obtain ⟨j, rfl⟩ : ∃ j, i = j + 1 := ⟨i - 1, by omega⟩
        have ih := fw_at f s (j + 1) j (by omega)
        rw [Nat.add_sub_cancel, ih.1, ih.2]
        exact ⟨rfl, rfl⟩
theorem zc2 (u:List Nat) (k i x:Nat) (h:i≠k):(u.set k x).getD i 0=u.getD i 0:=by
 rw [List.getD_eq_getElem?_getD,List.getD_eq_getElem?_getD,List.getElem?_set_ne (fun c=>h c.symm)]
theorem set_eq (u:List Nat) (k x:Nat) (h:k<u.length):(u.set k x).getD k 0=x:=by
 rw [List.getD_eq_getElem?_getD,List.getElem?_set_self h];try rfl
theorem zc3 {n : Nat} (g d : List Nat) : ∀ (k : Nat) (u : List Nat), u.length = n → k ≤ n → (∀ i, k ≤ i → (bk n g d k u).getD i 0 = u.getD i 0) ∧
    ∀ i, i < k → (bk n g d k u).getD i 0 = fop .quo .f32 (if i + 1 < n then fop .add .f32 (g.getD i 0) ((bk n g d k u).getD (i + 1) 0) else g.getD i 0) (d.getD i 0)
  | 0, u, _, _ => ⟨fun _ _ => rfl, fun i hi => absurd hi (by omega)⟩
  | k + 1, u, hu, hk => by
    obtain ⟨a, b⟩ := zc3 (n := n) g d k (bkS n g d u k) (by rw [Ug]; exact hu) (by omega)
    rw [bk]
    refine ⟨fun i hi => ?_, fun i hi => ?_⟩
    · rw [a i (by omega), bkS, zc2 _ _ _ _ (by omega)]
    · by_cases c : i < k
      · exact b i c
      · obtain rfl : i = k := by omega
        rw [a i (by omega), a (i + 1) (by omega), bkS, set_eq _ _ _ (by omega), zc2 _ _ _ _ (by omega)]
theorem Js {f:List Nat} {s:Nat} {i:Nat} (hi:i<f.length):(slv f s).getD i 0=fop .quo .f32 (if i+1<f.length then fop .add .f32 (gW f s i) ((slv f s).getD (i+1) 0) else gW f s i) (dW i):=by
 have h:=(zc3 (n:=f.length) (fw f s f.length).1 (fw f s f.length).2 f.length (List.replicate f.length 0) List.length_replicate (Nat.le_refl _)).2 i hi;obtain⟨e1,e2⟩:=fw_at f s f.length i hi;rw [e1,e2] at h;exact h
def wv (x:Nat):Int:=match (FloatKind.f32.format).read x with
 | .number s m e=>vD (FloatKind.f32.format).leastPlace s m e
 | _=>0
theorem VE {x:Nat} {v:Int} (h:Vl .f32 x v):wv x=v:=by
 obtain⟨s,m,e,r,_,rfl⟩:=h;unfold wv;rw [r]
def E26:Int:=((2 ^ 126:Nat):Int)
def dOk (i:Nat):Bool:=vlb .f32 (dW i) (wv (dW i))&&vlb .f32 (mq (dW i)) (wv (mq (dW i)))&&decide (One≤wv (dW i)∧wv (dW i)≤2*One∧-One≤wv (mq (dW i))∧wv (mq (dW i))≤0∧-E26≤wv (dW (i+1)) - (2*One+wv (mq (dW i)))∧wv (dW (i+1)) - (2*One+wv (mq (dW i)))≤E26 ∧
 -(E26*One)≤wv (mq (dW i))*wv (dW i)+One*One∧wv (mq (dW i))*wv (dW i)+One*One≤E26*One)
theorem d_ok:∀ i:Nat,i<15→dOk i=true:=by decide +kernel
def hh:Int:=((2 ^ 143:Nat):Int)
def T7:Int:=((2 ^ 132:Nat):Int)
theorem kr:Tf 7=T7:=rfl
def GB:Nat→Int
 | 0=>32*hh+2*T7
 | i+1=>32*hh+(-wv (mq (dW i))*GB i) / One+1+6*T7
def UBn (i:Nat) (U:Int):Int:=(One*(GB i+U)+5*(T7*One)) / wv (dW i)+1
def UBs (n:Nat):Nat→Int
 | 0=>UBn (n - 1) 0
 | j+1=>UBn (n - 2 - j) (UBs n j)
theorem g_ok:∀ i:Nat,i<15→0≤GB i∧GB i≤5*One:=by decide +kernel
theorem u_ok:∀ n:Nat,n<16→n=1∨n=3∨n=7∨n=15→∀ j:Nat,j<n→0≤UBs n j∧UBs n j≤17*One:=by decide +kernel
theorem wB:One=713623846352979940529142984724747568191373312:=by decide +kernel
theorem vF:T7=5444517870735015415413993718908291383296:=by decide +kernel
theorem qF:hh=11150372599265311570767859136324180752990208:=by decide +kernel
theorem E26_lit:E26=85070591730234615865843651857942052864:=by decide +kernel
theorem zef {m g G:Int} (hm:m≤0) (h:Lim G g):Lim (-m*G) (m*g):=by
 obtain⟨h1,h2⟩:=h;have a:=Int.mul_le_mul_of_nonneg_left h1 (show 0≤-m by omega);have b:=Int.mul_le_mul_of_nonneg_left h2 (show 0≤-m by omega);rw [Int.neg_mul,Int.neg_mul,Int.mul_neg] at a;rw [Int.neg_mul,Int.neg_mul] at b;unfold Lim;rw [Int.neg_mul];omega
theorem zeg {x y:Nat} {m g G:Int} (hx:Vl .f32 x m) (hy:Vl .f32 y g) (h1:-One≤m) (h2:m≤0) (hg:Lim G g) (hG:G≤5*One):∃ r,Vl .f32 (fop .mul .f32 x y) r∧Lim (2*(T7*One)) (One*r - m*g)∧Lim ((-m*G) / One+1+2*T7) r∧Lim (6*One) r:=by
 have hp:=zef h2 hg;have hG0:0≤G:=by unfold Lim at hg;omega
 have hpg:-m*G≤One*G:=Int.mul_le_mul_of_nonneg_right (by omega) hG0;have e1:=Int.mul_ediv_add_emod (m*g) One;have e2:=Int.emod_nonneg (m*g) (show One≠0 by decide +kernel);have e3:=Int.emod_lt_of_pos (m*g) (show 0<One by decide +kernel);have hk:(16777000*Tf 7)=16777000*T7:=rfl;obtain⟨r,v,l1,l2⟩:=fmul 7 (by decide) (p:=(m*g) / One) hx hy (by rw [Int.mul_comm (m*g / One)];omega) (by rw [Int.add_mul,Int.one_mul,Int.mul_comm (m*g / One)];omega) (by
  rw [hk];rw [wB,vF] at *;unfold Lim at *;omega) (by
  rw [hk];rw [wB,vF] at *;unfold Lim at *;omega)
 rw [kr] at l1 l2;refine⟨r,v,?_,?_,?_⟩
 ·rw [wB,vF] at *;unfold Lim at *;omega
 ·rw [wB,vF] at *;unfold Lim at *;omega
 ·rw [wB,vF] at *;unfold Lim at *;omega
theorem Jt {i:Nat} (h:i<15):Vl .f32 (dW i) (wv (dW i))∧Vl .f32 (mq (dW i)) (wv (mq (dW i)))∧One≤wv (dW i)∧wv (dW i)≤2*One∧-One≤wv (mq (dW i))∧wv (mq (dW i))≤0∧-E26≤wv (dW (i+1)) - (2*One+wv (mq (dW i)))∧wv (dW (i+1)) - (2*One+wv (mq (dW i)))≤E26 ∧
  -(E26*One)≤wv (mq (dW i))*wv (dW i)+One*One∧wv (mq (dW i))*wv (dW i)+One*One≤E26*One:=by
 have:=d_ok i h;unfold dOk at this;rw [Bool.and_eq_true,Bool.and_eq_true,decide_eq_true_eq] at this;exact⟨x9 this.1.1,x9 this.1.2,this.2⟩
section
variable {f:List Nat} {s:Nat} {q:Nat→Int} (hs:Vl .f32 (fop .mul .f32 s s) (2*U144)) (hn:f.length≤15) (hf:∀ i,i<f.length→Vl .f32 (f.getD i 0) (16*(hh*q i))) (hq:∀ i,i<f.length→Lim 32 (q i))
include hs hn hf hq
theorem VF {i:Nat} (hi:i<f.length):∃ r,Vl .f32 (force s (f.getD i 0)) r∧Lim (2*T7) (r - hh*q i):=by
 have h1:=hq i hi;obtain⟨r,v,l⟩:=jy 7 (by decide) hs (hf i hi) (by
  rw [kr,qF,vF];unfold Lim at *;omega)
 rw [kr] at l;exact⟨r,v,by unfold Lim at *;omega⟩
theorem XD : ∀ i, i < f.length → Vl .f32 (gW f s i) (wv (gW f s i)) ∧ Lim (GB i) (wv (gW f s i)) ∧ (i = 0 → Lim (2 * T7) (wv (gW f s 0) - hh * q 0)) ∧ ∀ j, i = j + 1 → Lim (5 * (T7 * One)) (One * wv (gW f s i) - (One * (hh * q i) - wv (mq (dW j)) * wv (gW f s j)))
  | 0, hi => by
    obtain ⟨r, v, l⟩ := VF hs hn hf hq hi
    have h1 := hq 0 hi
    have v : Vl .f32 (gW f s 0) r := v
    rw [VE v]
    refine ⟨v, ?_, fun _ => l, fun j c => absurd c (by omega)⟩
    rw [GB]; rw [qF] at *; unfold Lim at *; omega
  | i + 1, hi => by
    obtain ⟨a1, a2, _, _⟩ := XD i (by omega)
    obtain ⟨r, v, l⟩ := VF hs hn hf hq hi
    obtain ⟨_, d2, _, _, d5, d6, _⟩ := Jt (i := i) (by omega)
    obtain ⟨x, vx, lx, mx, nx⟩ := zeg d2 a1 d5 d6 a2 (g_ok i (by omega)).2
    have h1 := hq (i + 1) hi
    obtain ⟨z, vz, l1, l2⟩ := fsub 7 (by decide) v vx (by rw [kr]; rw [qF, wB, vF] at *; unfold Lim at *; omega) (by rw [kr]; rw [qF, wB, vF] at *; unfold Lim at *; omega)
    have vz : Vl .f32 (gW f s (i + 1)) z := vz
    rw [VE vz]
    rw [kr] at l1 l2
    refine ⟨vz, ?_, fun c => absurd c (by omega), fun j c => ?_⟩
    · rw [GB]; rw [qF] at *; unfold Lim at *; omega
    · obtain rfl : i = j := by omega
      rw [qF, wB, vF] at *; unfold Lim at *; omega
theorem zc4 (hl : f.length = 1 ∨ f.length = 3 ∨ f.length = 7 ∨ f.length = 15) : ∀ j, j < f.length → Vl .f32 ((slv f s).getD (f.length - 1 - j) 0) (wv ((slv f s).getD (f.length - 1 - j) 0)) ∧ Lim (UBs f.length j) (wv ((slv f s).getD (f.length - 1 - j) 0)) ∧
    Lim (5 * (T7 * One)) (wv ((slv f s).getD (f.length - 1 - j) 0) * wv (dW (f.length - 1 - j)) - One * (wv (gW f s (f.length - 1 - j)) + (if j = 0 then 0 else wv ((slv f s).getD (f.length - 1 - j + 1) 0))))
  | j, hj => by
    have hi : f.length - 1 - j < f.length := by omega
    have key : ∃ U x X, Vl .f32 x X ∧ (slv f s).getD (f.length - 1 - j) 0 = fop .quo .f32 x (dW (f.length - 1 - j)) ∧ Lim T7 (X - (wv (gW f s (f.length - 1 - j)) + (if j = 0 then 0 else wv ((slv f s).getD (f.length - 1 - j + 1) 0)))) ∧ Lim U (if j = 0 then 0 else wv ((slv f s).getD (f.length - 1 - j + 1) 0)) ∧ 0 ≤ U ∧ U ≤ 17 * One ∧ UBs f.length j = UBn (f.length - 1 - j) U := by
      have hg := XD hs hn hf hq (f.length - 1 - j) hi
      cases j with
      | zero =>
        refine ⟨0, _, _, hg.1, by rw [Js hi, if_neg (by omega)], by simp only [if_true]; rw [vF]; unfold Lim; omega, by unfold Lim; simp, by decide, by decide +kernel, rfl⟩
      | succ j =>
        obtain ⟨b1, b2, _⟩ := zc4 hl j (by omega)
        rw [show f.length - 1 - (j + 1) + 1 = f.length - 1 - j by omega, if_neg (by omega)]
        have hu := u_ok f.length (by omega) hl j (by omega)
        have hgb := g_ok (f.length - 1 - (j + 1)) (by omega)
        obtain ⟨x, vx, l1, l2⟩ := fadd 7 (by decide) hg.1 b1 (by
          rw [kr]; have := hg.2.1; rw [wB] at *; rw [vF]; unfold Lim at *; omega) (by
          rw [kr]; have := hg.2.1; rw [wB] at *; rw [vF]; unfold Lim at *; omega)
        rw [kr] at l1 l2
        refine ⟨UBs f.length j, _, x, vx, by rw [Js hi, if_pos (by omega), show f.length - 1 - (j + 1) + 1 = f.length - 1 - j by omega], by unfold Lim; omega, b2, hu.1, hu.2, ?_⟩
        rw [UBs, show f.length - 2 - j = f.length - 1 - (j + 1) by omega]
    obtain ⟨U, x, X, vx, e, hX, hU, hU0, hU17, hB⟩ := key
    have hg := (XD hs hn hf hq (f.length - 1 - j) hi).2.1
    have hgb := g_ok (f.length - 1 - j) (by omega)
    obtain ⟨d1, _, d3, d4, _⟩ := Jt (i := f.length - 1 - j) (by omega)
    generalize hw : (if j = 0 then (0 : Int) else wv ((slv f s).getD (f.length - 1 - j + 1) 0)) = w at *
    obtain ⟨r, vr, r1, r2, _⟩ := fquo 7 (by decide) vx d1 (by rw [wB] at d3; omega) (by
      have h1 : X.natAbs ≤ 32 * 2 ^ 149 := by
        rw [show (32 * 2 ^ 149 : Nat) = 22835963083295358096932575511191922182123945984 by decide +kernel]
        rw [wB] at *; rw [vF] at *; unfold Lim at *; omega
      have h2 : 2 ^ 149 ≤ (wv (dW (f.length - 1 - j))).natAbs := by
        rw [show (2 ^ 149 : Nat) = 713623846352979940529142984724747568191373312 by decide +kernel]
        rw [wB] at d3; omega
      refine Nat.le_trans (Nat.mul_le_mul_right (2 ^ 149) h1) (Nat.le_trans ?_ (Nat.mul_le_mul_left (2 ^ (147 + 7)) h2))
      decide +kernel)
    rw [kr] at r1 r2
    rw [e, VE vr, hB]
    unfold UBn
    generalize wv (dW (f.length - 1 - j)) = D at *
    have f1 : (r - 2 * T7) * D = r * D - 2 * (T7 * D) := by rw [Int.sub_mul, Int.mul_assoc]
    have f2 : (r + 2 * T7) * D = r * D + 2 * (T7 * D) := by rw [Int.add_mul, Int.mul_assoc]
    have f3 : T7 * D ≤ T7 * (2 * One) := Int.mul_le_mul_of_nonneg_left d4 (by decide +kernel)
    rw [f1] at r1
    rw [f2] at r2
    have hlim : Lim (5 * (T7 * One)) (r * D - One * (wv (gW f s (f.length - 1 - j)) + w)) := by
      rw [wB] at *; rw [vF] at *; unfold Lim at *; omega
    refine ⟨vr, ?_, hlim⟩
    have hD : 0 < D := by rw [wB] at d3; omega
    have hc := Uq (x := One * (GB (f.length - 1 - j) + U) + 5 * (T7 * One)) hD
    generalize (One * (GB (f.length - 1 - j) + U) + 5 * (T7 * One)) / D + 1 = B at *
    have g1 : D * r ≤ D * B := by rw [Int.mul_comm D r]; rw [wB] at *; rw [vF] at *; unfold Lim at *; omega
    have g2 : D * (-B) ≤ D * r := by rw [Int.mul_neg, Int.mul_comm D r]; rw [wB] at *; rw [vF] at *; unfold Lim at *; omega
    exact ⟨Int.le_of_mul_le_mul_left g2 hD, Int.le_of_mul_le_mul_left g1 hD⟩
end
theorem WI {a b A B:Int} (h:Lim A a) (k:Lim B b):Lim (A*B) (a*b):=by
 have h1:a.natAbs≤A.natAbs:=by unfold Lim at h;omega
 have k1:b.natAbs≤B.natAbs:=by unfold Lim at k;omega
 have h2:=Nat.mul_le_mul h1 k1;rw [←Int.natAbs_mul,←Int.natAbs_mul] at h2;have h3:0≤A*B:=Int.mul_nonneg (by unfold Lim at h;omega) (by unfold Lim at k;omega);unfold Lim;omega
theorem zc5 {u v w D D' m g g' q:Int} (a:Lim (5*(T7*One)) (u*D - One*(g+w))) (b:Lim (5*(T7*One)) (v*D' - One*(g'+u))) (c:Lim (5*(T7*One)) (One*g - (One*q - m*g'))) (m1:-One≤m) (m2:m≤0) (d1:-E26≤D - (2*One+m)) (d2:D - (2*One+m)≤E26)
  (e1:-(E26*One)≤m*D'+One*One) (e2:m*D'+One*One≤E26*One) (hu:Lim (17*One) u) (hv:Lim (17*One) v):Lim (16*T7) (2*u - v - w - q):=by
 have s1:=WI hu (⟨d1,d2⟩:Lim E26 (D - (2*One+m)));have o0:0≤One:=by decide +kernel
 have s2:=WI (⟨m1,by omega⟩:Lim One m) b;have s3:=WI (⟨e1,e2⟩:Lim (E26*One) (m*D'+One*One)) hv;have x1:u*(D - (2*One+m))=u*D - 2*(One*u) - m*u:=by
  rw [Int.mul_sub,Int.mul_add,show u*(2*One)=2*(One*u) by ac_rfl,Int.mul_comm u m];omega
 have x2:m*(v*D' - One*(g'+u))=m*D'*v - (One*(m*g')+One*(m*u)):=by
  rw [Int.mul_sub,show m*(v*D')=m*D'*v by ac_rfl,show m*(One*(g'+u))=One*(m*(g'+u)) by ac_rfl,Int.mul_add m,Int.mul_add]
 have x3:(m*D'+One*One)*v=m*D'*v+One*(One*v):=by
  rw [Int.add_mul,Int.mul_assoc One]
 rw [x1] at s1;rw [x2] at s2;rw [x3] at s3;rw [wB,vF,E26_lit] at *;unfold Lim at *;omega
section
variable {f:List Nat} {s:Nat} {q:Nat→Int} (hs:Vl .f32 (fop .mul .f32 s s) (2*U144)) (hl:f.length=1∨f.length=3∨f.length=7∨f.length=15) (hf:∀ i,i<f.length→Vl .f32 (f.getD i 0) (16*(hh*q i))) (hq:∀ i,i<f.length→Lim 32 (q i))
include hs hl hf hq
theorem u_at {i:Nat} (hi:i<f.length):Vl .f32 ((slv f s).getD i 0) (wv ((slv f s).getD i 0))∧Lim (17*One) (wv ((slv f s).getD i 0))∧Lim (5*(T7*One)) (wv ((slv f s).getD i 0)*wv (dW i) - One*(wv (gW f s i)+wv ((slv f s).getD (i+1) 0))):=by
 have h:=zc4 hs (by omega) hf hq hl (f.length - 1 - i) (by omega);have hb:=u_ok f.length (by omega) hl (f.length - 1 - i) (by omega);rw [show f.length - 1 - (f.length - 1 - i)=i by omega] at h;obtain⟨h1,h2,h3⟩:=h;refine⟨h1,by unfold Lim at *;omega,?_⟩
 by_cases c:f.length - 1 - i=0
 ·rw [if_pos c] at h3;have e:(slv f s).getD (i+1) 0=0:=by rw [List.getD_eq_getElem?_getD,List.getElem?_eq_none (by rw [qZ];omega)];rfl
  rw [e,show wv 0=0 by decide +kernel];exact h3
 ·rw [if_neg c] at h3;exact h3
theorem u_bend {i : Nat} (hi : i < f.length) : Lim (16 * T7) (2 * wv ((slv f s).getD i 0) - (if i = 0 then 0 else wv ((slv f s).getD (i - 1) 0)) - wv ((slv f s).getD (i + 1) 0) - hh * q i) := by
  obtain ⟨_, b1, a⟩ := u_at hs hl hf hq hi
  cases i with
  | zero =>
    rw [if_pos rfl]
    have g0 := (XD hs (by omega) hf hq 0 hi).2.2.1 rfl
    have d0 : wv (dW 0) = 2 * One := by decide +kernel
    rw [d0] at a
    generalize wv ((slv f s).getD 0 0) = u at *
    generalize wv ((slv f s).getD (0 + 1) 0) = w at *
    generalize hh * q 0 = p at *
    rw [wB, vF] at *
    unfold Lim at *; omega
  | succ j =>
    rw [if_neg (by omega), Nat.add_sub_cancel]
    obtain ⟨_, b2, b⟩ := u_at hs hl hf hq (i := j) (by omega)
    have c := (XD hs (by omega) hf hq (j + 1) hi).2.2.2 j rfl
    obtain ⟨_, _, _, _, d5, d6, d7, d8, d9, d10⟩ := Jt (i := j) (by omega)
    exact zc5 a b c d5 d6 d7 d8 d9 d10 b1 b2
end
theorem VS_mk : ∀ (ws : List Nat) (Us es : List Int), Us.length = ws.length → es.length = ws.length → (∀ i, i < ws.length → Vl .f32 (ws.getD i 0) (Us.getD i 0 + es.getD i 0)) → VS ws Us es
  | [], [], [], _, _, _ => trivial
  | w :: ws, U :: Us, e :: es, h1, h2, h => ⟨h 0 (by simp), VS_mk ws Us es (by simpa using h1) (by simpa using h2) fun i hi => by
    have := h (i + 1) (by simpa using hi)
    simpa using this⟩
theorem KT {c : Int} : ∀ (xs : List Int) (l : Int), (∀ i, i < xs.length → Lim c (2 * xs.getD i 0 - (if i = 0 then l else xs.getD (i - 1) 0) - xs.getD (i + 1) 0)) → Bend c l xs
  | [], _, _ => trivial
  | x :: xs, l, h => ⟨by
    have := h 0 (by simp)
    cases xs <;> simpa using this, KT xs x fun i hi => by
    have := h (i + 1) (by simpa using hi)
    cases i <;> simpa using this⟩
theorem zc6 {n : Int} : ∀ (us ps : List Int) (l : Int), Eqn n l us ps → ∀ i, i < us.length → 64 * us.getD i 0 = n * ps.getD i 0 + 32 * (if i = 0 then l else us.getD (i - 1) 0) + 32 * us.getD (i + 1) 0
  | u :: us, p :: ps, l, h, 0, _ => by
    have := h.1
    cases us <;> simpa using this
  | u :: us, p :: ps, l, h, i + 1, hi => by
    have := zc6 us ps u h.2 i (by simpa using hi)
    cases i <;> simpa using this
  | _ :: _, [], _, h, _, _ => h.elim
theorem X4 {n:Int}:∀ {us ps:List Int} {l:Int},Eqn n l us ps→ps.length=us.length
 | [],[],_,_=>rfl
 | _::us,_::ps,_,h=>by rw [List.length_cons,List.length_cons,X4 h.2]
 | [],_::_,_,h=>h.elim
 | _::_,[],_,h=>h.elim
theorem za7 {f : List Nat} {s : Nat} {qs Us : List Int} (hs : Vl .f32 (fop .mul .f32 s s) (2 * U144)) (hl : f.length = 1 ∨ f.length = 3 ∨ f.length = 7 ∨ f.length = 15) (hF : VZ f (qs.map fun q => 16 * (hh * q))) (hq : ∀ q ∈ qs, Lim 32 q) (hU : Eqn 2 0 Us (qs.map fun q => 16 * (hh * q))) :
    ∃ es, VS (slv f s) Us es ∧ Bend (16 * T7) 0 es ∧ AllL (512 * T7) es := by
  have hql : qs.length = f.length := by have := Yk hF; rw [List.length_map] at this; exact this
  have hUl : Us.length = f.length := by have := X4 hU; rw [List.length_map] at this; omega
  have hf : ∀ i, i < f.length → Vl .f32 (f.getD i 0) (16 * (hh * qs.getD i 0)) := by
    have key : ∀ (ws : List Nat) (rs : List Int), VZ ws (rs.map fun q => 16 * (hh * q)) → ∀ i, i < ws.length → Vl .f32 (ws.getD i 0) (16 * (hh * rs.getD i 0)) := by
      intro ws
      induction ws with
      | nil => intro _ _ i hi; simp at hi
      | cons w ws ih =>
        intro rs h i hi
        cases rs with
        | nil => obtain ⟨_, _, c, _⟩ := vP h; cases c
        | cons r rs =>
          obtain ⟨e, es, he, h1, h2⟩ := vP h
          rw [List.map_cons] at he
          obtain ⟨rfl, rfl⟩ := List.cons.inj he
          cases i with
          | zero => exact h1
          | succ i => have := ih rs h2 i (by simpa using hi); simpa using this
    exact key f qs hF
  have hq' : ∀ i, i < f.length → Lim 32 (qs.getD i 0) := fun i hi => by rw [gD (by omega)]; exact hq _ (List.getElem_mem _)
  have hsl := qZ f s
  let es := (List.range f.length).map fun i => wv ((slv f s).getD i 0) - Us.getD i 0
  have hel : es.length = f.length := by simp [es]
  have hee : ∀ i, es.getD i 0 = wv ((slv f s).getD i 0) - Us.getD i 0 := fun i => by
    by_cases c : i < f.length
    · rw [gD (by omega)]; simp [es]
    · rw [List.getD_eq_getElem?_getD, List.getElem?_eq_none (by omega), List.getD_eq_getElem?_getD (l := slv f s), List.getElem?_eq_none (by omega), List.getD_eq_getElem?_getD (l := Us), List.getElem?_eq_none (by omega)]
      decide +kernel
  have hb : Bend (16 * T7) 0 es := KT _ _ fun i hi => by
    have h1 := u_bend hs hl hf hq' (i := i) (by omega)
    have h2 := zc6 Us _ 0 hU i (by omega)
    have h3 : (qs.map fun q => 16 * (hh * q)).getD i 0 = 16 * (hh * qs.getD i 0) := by
      rw [gD (by rw [List.length_map]; omega), List.getElem_map, gD (by omega)]
    rw [h3] at h2
    rw [hee, hee, hee]
    unfold Lim at *
    split at h1
    · rename_i c
      rw [if_pos c] at h2 ⊢
      omega
    · rename_i c
      rw [if_neg c] at h2 ⊢
      omega
  refine ⟨es, VS_mk _ _ _ (by omega) (by omega) fun i hi => ?_, hb, ?_⟩
  · rw [hee, show Us.getD i 0 + (wv ((slv f s).getD i 0) - Us.getD i 0) = wv ((slv f s).getD i 0) by omega]
    exact (u_at hs hl hf hq' (by omega)).1
  · have := WH (by decide +kernel) hb (by omega)
    rw [show (32 : Int) * (16 * T7) = 512 * T7 by omega] at this; exact this
end Go.Proofs.Ytochgocgmeeppaa.G
namespace Go.Proofs.Ytochgocgmeeppaa.G
open Go Go.Ab
set_option maxRecDepth 100000
set_option maxHeartbeats 1000000
set_option exponentiation.threshold 4000
def uz (qs:List Int):List Int:=qs.map fun q=>16*(hh*q)
structure Ln (d:Nat) (f:List Nat) (qs Us:List Int):Prop where
 hd:d≤3
 hl:f.length=dl d
 hF:VZ f (uz qs)
 hq:∀ q∈qs,Lim 32 q
 hE:Eqn 2 0 Us (uz qs)
 hU:AllL (16*One) Us
theorem KU : ∀ {ws : List Nat} {es : List Int}, VZ ws es → VS ws es (zs es.length)
  | [], es, h => by obtain rfl := kL h; exact trivial
  | w :: ws, es, h => by
    obtain ⟨e, es, rfl, h1, h2⟩ := vP h
    exact ⟨by rw [Int.add_zero]; exact h1, KU h2⟩
theorem solU_ok {d:Nat} (hd:d≤3) {qs:List Int} (hl:qs.length=dl d) (hq:∀ q∈qs,Lim 32 q):∃ Us,Eqn 2 0 Us (uz qs)∧AllL (16*One) Us:=by
 obtain⟨y,hy⟩:∃ y,((qs.length:Int)+1)*y=hh:=by
  rw [hl]
  match d,hd with
  | 0,_=>exact⟨((2 ^ 142:Nat):Int),by decide +kernel⟩
  | 1,_=>exact⟨((2 ^ 141:Nat):Int),by decide +kernel⟩
  | 2,_=>exact⟨((2 ^ 140:Nat):Int),by decide +kernel⟩
  | 3,_=>exact⟨((2 ^ 139:Nat):Int),by decide +kernel⟩
 have hlast:=zee y qs;rw [hy] at hlast;refine⟨genU hh 0 (y*wsum qs) qs,Jr hh qs _ _ hlast,?_⟩;have hb:=UY (c:=32*hh) qs _ _ hlast fun q hx=>by
  have:=hq q hx;rw [qF];unfold Lim at *;omega
 have:=WH (by decide +kernel) hb (by rw [Jq,hl];exact (qJ d hd).2);rw [show (32:Int)*(32*hh)=16*One by decide +kernel] at this;exact this
theorem Ur {qs:List Int} (hq:∀ q∈qs,Lim 32 q):AllN 2 (32*hh) (uz qs):=fun x hx=>by
 obtain⟨q,hm,rfl⟩:=List.mem_map.1 hx;have:=hq q hm;rw [qF];unfold Lim at *;omega
def okC (k a b d:Nat) (E:Int):Bool:=(cyB (Tf k) a b d 2 (32*hh) (16*One) 0 E).isSome
section
variable {d:Nat} {f:List Nat} {qs Us:List Int} (L:Ln d f qs Us)
include L
theorem Ln.qlen:qs.length=dl d:=by have:=Yk L.hF;unfold uz at this;rw [List.length_map,L.hl] at this;exact this
theorem Ln.flen:(uz qs).length=dl d:=by unfold uz;rw [List.length_map];exact L.qlen
theorem Ln.vs:VS f (uz qs) (zs (dl d)):=by have:=KU L.hF;rw [L.flen] at this;exact this
theorem Ln.step:Vl .f32 (fop .mul .f32 (cz .f32 1048576000) (cz .f32 1048576000)) (2*U144):=by
 have:=st_ok 0 (by decide);exact this.1
theorem Ln.cycle (h1:1≤d) {k a b:Nat} (hk:k≤60) (ha:1≤a) (im:Bool) {E:Int} (hE0:0≤E) (hok:okC k a b d E=true) {u:List Nat} {es:List Int} (hu:VS u Us es) (hes:AllL E es) (hul:u.length=dl d) :
  ∃ os,VS (cyW im a b d (cz .f32 1048576000) u f) Us os∧CyN (268*Tf k) a b d 2 (zs (dl d)) es os∧(im=true→XZ a b d (cz .f32 1048576000) u f):=by
 unfold okC at hok;obtain⟨B,hB⟩:=Option.isSome_iff_exists.1 hok;obtain⟨os,o1,o2,_,o4⟩:=KQ k hk im a b ha d (cz .f32 1048576000) 2 (32*hh) (16*One) 0 E B u f Us (uz qs) es (zs (dl d)) (st_ok d L.hd) hB (by decide +kernel) (Int.le_refl _) hE0 hu L.vs L.hE L.hU (Ur L.hq) (Zk _) hes hul L.hl (fun c=>absurd c (by omega));exact⟨os,o1,o2,o4⟩
theorem Ln.rest {k:Nat} (hk:k≤60) {M:Int} (hM:0≤M) (c1:3*(16*One+M)+20*Tf k≤16700000*Tf k) (c2:32*(32*hh+4*M)+200*Tf k≤4194304*(2*Tf k)) (c3:64*M+100*Tf k≤16700000*Tf k) (c4:32*hh+4*M+20*Tf k≤16700000*Tf k)
  {v:List Nat} {es:List Int} (hv:VS v Us es) (hes:AllL M es) (hvl:v.length=dl d):∃ rs,VZ (rsW (fop .mul .f32 (cz .f32 1048576000) (cz .f32 1048576000)) 0 v f) rs∧RsN 2 (268*Tf k) 0 (zs (dl d)) es rs∧AllL (64*M+67*Tf k) rs:=by
 have hT:=wK k;have hel:=(qE hv).2;have o0:0≤One:=by decide +kernel
 have lim0:Lim (16*One) 0:=by unfold Lim;omega
 obtain⟨rs,r1,r2,r3⟩:=Un k hk (PU:=32*hh) (MU:=16*One) (M:=M) (Q:=0) (A:=32*hh+4*M) (C:=64*M) (C0:=32*0+128*M) (R:=64*M+67*Tf k) L.step (.inl rfl) (show 0≤16*One by decide +kernel) hM (by omega) (by omega) (by omega) c1 c2 c3 c4 v f Us (uz qs) es (zs (dl d)) 0 0 0 (x9 (by decide +kernel)) lim0 (by unfold Lim;omega) hv L.vs L.hE L.hU hes (Ur L.hq) (Zl _ _) (Jo hM (by rw [Jp];omega) (by unfold Lim;omega) (Zl _ _) hes);exact⟨rs,r1,r2,r3⟩
end
theorem Ju {V c : Int} (hV : 0 ≤ V) (hc : 0 ≤ c) : ∀ {fs es rs : List Int} {l : Int}, (∀ x ∈ fs, x = 0) → RsN 2 V l fs es rs → AllL c rs → Bend ((4 * c + V) / 64 + 1) l es
  | [], [], [], _, _, _, _ => trivial
  | f :: fs, e :: es, r :: rs, l, hf, h, hr => by
    have f0 := hf f (List.mem_cons_self ..)
    have h1 := h.1
    have h2 := hr.hd
    rw [show kOf 2 = 2 from rfl] at h1
    exact ⟨by unfold Lim at *; omega, Ju hV hc (fun x hx => hf x (List.mem_cons_of_mem _ hx)) h.2 hr.tl⟩
  | [], [], _ :: _, _, _, h, _ => h.elim
  | [], _ :: _, _, _, _, h, _ => h.elim
  | _ :: _, [], _, _, _, h, _ => h.elim
  | _ :: _, _ :: _, [], _, _, h, _ => h.elim
theorem KV (m:Nat):∀ x∈zs m,x=0:=fun x hx=>List.eq_of_mem_replicate hx
def e56:Nat:=72057594037927936
theorem mg22:∀ d,1≤d→d≤3→mgB d 2 2 (dl d) (35*e56) (256*e56) (407*e56) (573*e56)=true
 | 1,_,_=>mg22_3
 | 2,_,_=>mg22_7
 | 3,_,_=>mg22_15
 | 0,h,_=>absurd h (by omega)
 | _+4,_,h=>absurd h (by omega)
theorem mg11:∀ d,1≤d→d≤3→mgB d 1 1 (dl d) (153*e56) (256*e56) (2459*e56) (649*e56)=true
 | 1,_,_=>mg11_3
 | 2,_,_=>mg11_7
 | 3,_,_=>mg11_15
 | 0,h,_=>absurd h (by omega)
 | _+4,_,h=>absurd h (by omega)
def Z0 (k:Nat) (E:Int):Int:=35*E / 256+268*Tf k+1
def leftE (k:Nat) (E:Int):Int:=(407*E+573*(268*Tf k)) / 256+1
theorem near22 {d k:Nat} (h1:1≤d) (h3:d≤3) {E:Int} (hE:0≤E) {es os:List Int} (hl:es.length=dl d) (he:AllL E es) (hc:CyN (268*Tf k) 2 2 d 2 (zs (dl d)) es os):AllL (Z0 k E) os∧∀ rs,RsN 2 (268*Tf k) 0 (zs (dl d)) os rs→AllL (leftE k E) rs:=by
 have hT:=wK k;obtain⟨a,b⟩:=mg_ok (mg22 d h1 h3) hE (show 0≤268*Tf k by omega) hl he hc;refine⟨fun x hx=>?_,fun rs hr x hx=>?_⟩
 ·have:=a x hx;unfold Z0 DD e56 at *;unfold Lim at *;omega
 ·have:=b rs hr x hx;unfold leftE DD e56 at *;unfold Lim at *;omega
theorem near11 {d k:Nat} (h1:1≤d) (h3:d≤3) {E:Int} (hE:0≤E) {es os:List Int} (hl:es.length=dl d) (he:AllL E es) (hc:CyN (268*Tf k) 1 1 d 2 (zs (dl d)) es os):AllL (153*E / 256+268*Tf k+1) os:=by
 have hT:=wK k;obtain⟨a,_⟩:=mg_ok (mg11 d h1 h3) hE (show 0≤268*Tf k by omega) hl he hc;intro x hx;have:=a x hx;unfold DD e56 at *;unfold Lim at *;omega
theorem vl_repC {x:Nat} {v:Int} (h:Vl .f32 x v) (hv:v.natAbs≤2 ^ 200):RepZ (FloatKind.f32.format) v:=by
 obtain⟨s,m,e,r,l,rfl⟩:=h;have hp:(FloatKind.f32.format).fractionBits=23:=by decide
 have hx:(FloatKind.f32.format).exponentBits=8:=by decide
 have ha:=kJ (FloatKind.f32.format).leastPlace s m e;have hm:m<2 ^ 24:=by
  have:=Ud (x:=x) r;omega
 by_cases h0:m=0
 ·refine⟨0,0,by decide,by decide,?_⟩;rw [ha,h0];simp
 ·refine⟨m,(e - (FloatKind.f32.format).leastPlace).toNat,by rw [hp];exact hm,?_,ha⟩;rw [ha] at hv;have:=Jd h0 hv;rw [hp,hx];omega
theorem mx_near {a b:Nat} {x y:Int} (ha:Vl .f32 a x) (hb:Vl .f32 b y):Vl .f32 (mxF .f32 a b) (max x y):=by
 have h:=ZH ha hb;unfold mxF;rw [h];rcases Int.lt_trichotomy x y with c|c|c
 ·rw [show compare x y=.lt by simp [compare,compareOfLessAndEq,c],show max x y=y by omega];exact hb
 ·subst c;rw [show compare x x=.eq by simp [compare,compareOfLessAndEq],show max x x=x by omega];show Vl .f32 (if _ then b else a) x
  split
  ·exact hb
  ·exact ha
 ·rw [show compare x y=.gt by
   have h1:¬x<y:=by omega
   have h2:¬x=y:=by omega
   simp [compare,compareOfLessAndEq,h1,h2],show max x y=x by omega];exact ha
theorem kM:Vl .f32 (cz .f32 0) 0:=x9 (by decide +kernel)
theorem Ut {a:Nat} {v:Int} {K:Nat→Prop} (ha:Vl .f32 a v) (h:∀ g,Vl .f32 g (v.natAbs:Int)→K g):impl_size.wp a K:=by
 refine⟨fun c=>h _ ?_,fun c=>⟨fun c2=>h _ ?_,fun c2=>h _ ?_⟩⟩
 ·rw [Vz ha kM] at c;have:=of_decide_eq_true c;rw [show ((v.natAbs:Nat):Int)=-v by omega];exact zcp a ha
 ·rw [zcm ha kM] at c2;have:=of_decide_eq_true c2;rw [show ((v.natAbs:Nat):Int)=0 by omega];exact kM
 ·rw [Vz ha kM] at c;have:=of_decide_eq_false c;rw [show ((v.natAbs:Nat):Int)=v by omega];exact ha
theorem Uu {a:Nat} {v:Int} {K:Nat→Prop} (ha:Vl .f32 a v) (hv:v.natAbs≤2 ^ 200) (h:∀ g,Vl .f32 g (v.natAbs:Int)→K g):spec_l03Size.wp a K:=by
 refine⟨fun c=>h _ ?_,fun c=>h _ ?_⟩
 ·rw [Yi ha kM] at c;have:=of_decide_eq_true c;have hr:=vl_repC (zcp a ha) (by omega);obtain⟨r,z1,z2,z3⟩:=Xz (k:=.f32) (A:=200) fmt1 kM.iv ha.iv (lo:=-v) (hi:=-v) hr hr (by omega) (by omega) (by omega) (by omega) (by decide);rw [show ((v.natAbs:Nat):Int)=r by omega];exact z1
 ·rw [Yi ha kM] at c;have:=of_decide_eq_false c;rw [show ((v.natAbs:Nat):Int)=v by omega];exact ha
def wst:Int→List Int→Int
 | m,[]=>m
 | m,r::rs=>wst (max m (r.natAbs:Int)) rs
theorem Jv {c : Int} : ∀ (rs : List Int) (m : Int), wst m rs ≤ c ↔ m ≤ c ∧ AllL c rs
  | [], m => ⟨fun h => ⟨h, AllL.nil _⟩, fun h => h.1⟩
  | r :: rs, m => by
    rw [wst, Jv rs]
    constructor
    · intro h
      refine ⟨by omega, AllL.cons (by unfold Lim; omega) h.2⟩
    · intro h
      have := h.2.hd
      exact ⟨by unfold Lim at this; omega, h.2.tl⟩
theorem VG {ws : List Nat} {rs : List Int} {Sz : Nat → (Nat → Prop) → Prop} (hS : ∀ a v (K : Nat → Prop), Vl .f32 a v → v.natAbs ≤ 2 ^ 200 → (∀ g, Vl .f32 g (v.natAbs : Int) → K g) → Sz a K) {X : Nat → Int → Prop} (hl : ws.length ≤ 63)
    (hX : ∀ (g : Nat) (i : Nat), i < ws.length → Sz (ws.getD i 0) (fun y => X (mxF .f32 g y) ((i + 1 : Nat) : Int)) → X g (i : Int)) (hend : ∀ g, Vl .f32 g (wst 0 rs) → X g (ws.length : Int)) (hr : VZ ws rs) (hb : AllL ((2 ^ 200 : Nat) : Int) rs) : X (cz .f32 0) (0 : Int) := by
  have key : ∀ (r p : List Nat) (rr : List Int) (g : Nat) (m : Int), ws = p ++ r → VZ r rr → AllL ((2 ^ 200 : Nat) : Int) rr → Vl .f32 g m → wst m rr = wst 0 rs → X g (p.length : Int) := by
    intro r
    induction r with
    | nil =>
      intro p rr g m e hv _ hg hw
      obtain rfl := kL hv
      rw [List.append_nil] at e
      subst e
      exact hend g (by rw [← hw]; exact hg)
    | cons x r ih =>
      intro p rr g m e hv ha hg hw
      obtain ⟨v, rr, rfl, h1, h2⟩ := vP hv
      have := ha.hd
      refine hX g p.length (by rw [e]; simp) ?_
      rw [show ws.getD p.length 0 = x by rw [e, jw]]
      refine hS x v _ h1 (by unfold Lim at this; omega) fun y hy => ?_
      have := ih (p ++ [x]) rr (mxF .f32 g y) (max m (v.natAbs : Int)) (by rw [e]; simp) h2 ha.tl (mx_near hg hy) hw
      rw [List.length_append, len1] at this
      exact this
  exact key ws [] rs (cz .f32 0) 0 rfl hr hb kM rfl
def q128:Int:=((2 ^ 142:Nat):Int)
def stopE:Int:=32*((4*q128+268*Tf 10) / 64+1)
def capE:Int:=13*((2 ^ 147:Nat):Int)
def restB (k:Nat) (M:Int):Bool:=decide (0≤M∧3*(16*One+M)+20*Tf k≤16700000*Tf k∧32*(32*hh+4*M)+200*Tf k≤4194304*(2*Tf k)∧64*M+100*Tf k≤16700000*Tf k∧32*hh+4*M+20*Tf k≤16700000*Tf k)
def finB (d k:Nat) (E:Int):Bool:=decide (d=0) || (decide (leftE k E≤q128)&&restB k (Z0 k E))
def Ql (d k:Nat) (E:Int):Bool:=decide (0≤E∧k≤60)&&(decide (Z0 k E≤capE)&&bif decide (d=0) then decide (k=6) else okC k 2 2 d E)
def ku (d:Nat):Int→List Nat→Bool
 | _,[]=>false
 | E,k::ks=>Ql d k E&&(finB d k E || ku d (Z0 k E) ks)
theorem run0:ku 0 (16*One) [6]=true:=by decide +kernel
theorem run1:ku 1 (16*One) [16,14,12,10,8,6,6]=true:=by decide +kernel
theorem run2:ku 2 (16*One) [16,14,12,10,8,6,6]=true:=by decide +kernel
theorem run3:ku 3 (16*One) [16,14,12,10,8,6,6]=true:=by decide +kernel
theorem zc7:∀ d,d≤3→∃ ks,ks.length≤20∧ku d (16*One) ks=true
 | 0,_=>⟨_,by decide,run0⟩
 | 1,_=>⟨_,by decide,run1⟩
 | 2,_=>⟨_,by decide,run2⟩
 | 3,_=>⟨_,by decide,run3⟩
 | _+4,h=>absurd h (by omega)
theorem Uv : ∀ {ws : List Nat} {a b : List Int}, VZ ws a → VZ ws b → a = b
  | [], a, b, h, k => by rw [kL h, kL k]
  | w :: ws, a, b, h, k => by
    obtain ⟨e, es, rfl, h1, h2⟩ := vP h
    obtain ⟨e', es', rfl, k1, k2⟩ := vP k
    rw [Uv h2 k2, ← VE h1, ← VE k1]
structure Aft (d:Nat) (f:List Nat) (Us:List Int) (E:Int) (fin:Bool) (v:List Nat) (os rs:List Int):Prop where
 vs:VS v Us os
 le:AllL E os
 len:v.length=dl d
 vz:VZ (rsW (fop .mul .f32 (cz .f32 1048576000) (cz .f32 1048576000)) 0 v f) rs
 big:AllL ((2 ^ 200:Nat):Int) rs
 near:wst 0 rs≤q128→AllL stopE os
 ends:fin=true→wst 0 rs≤q128
theorem zeh:restB 10 capE=true:=by decide +kernel
theorem cap_big:64*capE+67*Tf 10≤((2 ^ 200:Nat):Int):=by decide +kernel
theorem wst_of {rs:List Int} (h:AllL q128 rs):wst 0 rs≤q128:=(Jv rs 0).2 ⟨by decide +kernel,h⟩
section
variable {d:Nat} {f:List Nat} {qs Us:List Int} (L:Ln d f qs Us)
include L
theorem Ln.restB {k:Nat} (hk:k≤60) {M:Int} (hr:restB k M=true) {v:List Nat} {es:List Int} (hv:VS v Us es) (hes:AllL M es) (hvl:v.length=dl d) :
  ∃ rs,VZ (rsW (fop .mul .f32 (cz .f32 1048576000) (cz .f32 1048576000)) 0 v f) rs∧RsN 2 (268*Tf k) 0 (zs (dl d)) es rs∧AllL (64*M+67*Tf k) rs:=by
 unfold G.restB at hr;obtain⟨h0,h1,h2,h3,h4⟩:=of_decide_eq_true hr;exact L.rest hk h0 h1 h2 h3 h4 hv hes hvl
theorem Ln.aft {E':Int} {fin:Bool} {v:List Nat} {os:List Int} (hv:VS v Us os) (ho:AllL E' os) (hl:v.length=dl d) (hc:E'≤capE) (hfin:fin=true→∀ rs,VZ (rsW (fop .mul .f32 (cz .f32 1048576000) (cz .f32 1048576000)) 0 v f) rs→AllL q128 rs):∃ rs,Aft d f Us E' fin v os rs:=by
 obtain⟨rs,r1,r2,r3⟩:=L.restB (by decide) zeh hv (ho.up hc) hl;refine⟨rs,hv,ho,hl,r1,r3.up cap_big,fun h=>?_,fun h=>wst_of (hfin h rs r1)⟩;have h2:=((Jv rs 0).1 h).2;have hb:=Ju (by have:=wK 10;omega) (by decide +kernel) (KV _) r2 h2;have:=WH (by decide +kernel) hb (by have:=(qE hv).2;have:=(qJ d L.hd).2;omega);exact this
theorem Ln.one {k : Nat} {E : Int} (hok : Ql d k E = true) (im : Bool) {u : List Nat} {es : List Int} (hu : VS u Us es) (hes : AllL E es) (hul : u.length = dl d) :
    ∃ os rs, Aft d f Us (Z0 k E) (finB d k E) (cyW im 2 2 d (cz .f32 1048576000) u f) os rs ∧ (im = true → XZ 2 2 d (cz .f32 1048576000) u f) := by
  unfold Ql at hok
  rw [Bool.and_eq_true, Bool.and_eq_true] at hok
  obtain ⟨h1, h2, h3⟩ := hok
  obtain ⟨hE, hk⟩ := of_decide_eq_true h1
  have h2 := of_decide_eq_true h2
  have hlen : (cyW im 2 2 d (cz .f32 1048576000) u f).length = dl d := Zw im 2 2 d _ u f hul L.hl
  by_cases hd0 : d = 0
  · subst hd0
    rw [decide_eq_true rfl, cond_true] at h3
    obtain rfl := of_decide_eq_true h3
    have hfl := L.hl
    have hql := L.qlen
    cases qs with
    | nil => cases hql
    | cons q qs =>
      obtain rfl : qs = [] := List.eq_nil_of_length_eq_zero (by simpa [dl] using hql)
      cases f with
      | nil => cases hfl
      | cons p ps =>
        obtain ⟨e, es', he, hp1, hp2⟩ := vP L.hF
        obtain ⟨rfl, rfl⟩ := List.cons.inj he
        have hp1 : Vl .f32 p (16 * (hh * q)) := hp1
        have hU := L.hE
        have hq := L.hq q (List.mem_cons_self ..)
        have hUl : Us.length = 1 := by have := (qE hu).1; rw [hul] at this; exact this
        cases Us with
        | nil => cases hUl
        | cons U Us =>
          obtain rfl : Us = [] := List.eq_nil_of_length_eq_zero (by simpa using hUl)
          have hU1 : 64 * U = 2 * (16 * (hh * q)) + 32 * 0 + 32 * 0 := hU.1
          obtain ⟨hw, hov, _, hwt, e2, hwh⟩ := st_ok 0 (by decide)
          have hT := wK 6
          have hlim : Lim (2 * (16 * (32 * hh))) (2 * (16 * (hh * q))) := by rw [qF]; unfold Lim at *; omega
          have hTl : 2 * (16 * (32 * hh)) ≤ 500000000 * Tf 6 := by decide +kernel
          have key : ∃ x, Vl .f32 (botW im (cz .f32 1048576000) p) x ∧ Lim (192 * Tf 6) (64 * x - 2 * (16 * (hh * q))) := by
            cases im with
            | true =>
              obtain ⟨x1, v1, l1⟩ := jy 6 (by decide) hw hp1 (by unfold Lim at *; omega)
              obtain ⟨x, v, l⟩ := X0 6 (by decide) v1 (by unfold Lim at *; omega)
              exact ⟨x, v, by unfold Lim at *; omega⟩
            | false =>
              obtain rfl : hwt = 1 := by omega
              obtain ⟨x, v, l⟩ := jy 6 (by decide) hwh hp1 (by unfold Lim at *; omega)
              exact ⟨x, v, by unfold Lim at *; omega⟩
          obtain ⟨x, vx, lx⟩ := key
          have hv : VS (cyW im 2 2 0 (cz .f32 1048576000) u (p :: ps)) [U] [x - U] := ⟨by rw [show U + (x - U) = x by omega]; exact vx, trivial⟩
          have h3T : AllL (3 * Tf 6) [x - U] := AllL.cons (by unfold Lim at *; omega) (AllL.nil _)
          have hup : 3 * Tf 6 ≤ Z0 6 E := by unfold Z0; omega
          obtain ⟨rs, ha⟩ := L.aft (fin := finB 0 6 E) hv (h3T.up hup) hlen h2 fun _ rs hr => by
            obtain ⟨rs', r1, r2, _⟩ := L.restB (k := 6) (by decide) (M := 3 * Tf 6) (by decide +kernel) hv h3T hlen
            obtain rfl := Uv hr r1
            have hrl : rs.length = 1 := by rw [Yk hr, uW _ _ _ _ (by rw [hlen]; exact hfl), hlen]; rfl
            cases rs with
            | nil => cases hrl
            | cons r rs =>
              obtain rfl : rs = [] := List.eq_nil_of_length_eq_zero (by simpa using hrl)
              have h1 := r2.1
              rw [show kOf 2 = 2 from rfl] at h1
              have h2 := h3T.hd
              have hq8 : 1024 * Tf 6 ≤ q128 := by decide +kernel
              have h0 : ([] : List Int).headD 0 = 0 := rfl
              exact AllL.cons (by unfold Lim at *; omega) (AllL.nil _)
          refine ⟨_, rs, ha, fun hi => ?_⟩
          subst hi
          exact ⟨hov, vE hu, uG L.hF, vE hv⟩
  · rw [decide_eq_false hd0, cond_false] at h3
    obtain ⟨os, o1, o2, o3⟩ := L.cycle (by omega) hk (by decide) im hE h3 hu hes hul
    have hel : es.length = dl d := by have := (qE hu).2; omega
    obtain ⟨n1, n2⟩ := near22 (by omega) L.hd hE hel hes o2
    obtain ⟨rs, ha⟩ := L.aft (fin := finB d k E) o1 n1 hlen h2 fun hfin rs hr => by
      unfold finB at hfin
      rw [decide_eq_false hd0, Bool.false_or, Bool.and_eq_true] at hfin
      obtain ⟨rs', r1, r2, _⟩ := L.restB hk hfin.2 o1 n1 hlen
      obtain rfl := Uv hr r1
      exact (n2 rs r2).up (of_decide_eq_true hfin.1)
    exact ⟨os, rs, ha, o3⟩
end
theorem Jw:∀ (Us:List Int),VS (List.replicate Us.length 0) Us (Us.map fun x=>-x)
 | []=>trivial
 | U::Us=>⟨by rw [show U+-U=0 by omega];exact x9 (by decide +kernel),Jw Us⟩
theorem Jy {M:Int} {Us:List Int} (h:AllL M Us):AllL M (Us.map fun x=>-x):=fun x hx=>by
 obtain⟨y,hy,rfl⟩:=List.mem_map.1 hx;have:=h y hy;unfold Lim at *;omega
theorem zc8:Vl .f32 (cz .f32 1006632960) q128:=x9 (by decide +kernel)
theorem ZJ {l:List Nat} {d:Nat} (hd:d≤3) (h:l.length=dl d) (hf:pAll l=true):isLn l=true:=vO (by rw [h];exact (qJ d hd).1) hf
section
variable {d:Nat} {f:List Nat} {qs Us:List Int} (L:Ln d f qs Us)
include L
theorem Yl {K : List Nat → Int → Bool → Prop} (hK : ∀ (v : List Nat) (os : List Int) (n : Nat), VS v Us os → AllL stopE os → v.length = dl d → 1 ≤ n → n ≤ 20 → K v (n : Int) true) : impl_SolveCycles.wp f (cz .f32 1048576000) (cz .f32 1006632960) 20 K := by
  have hfl := L.hl
  have h15 := (qJ d L.hd).2
  have hp := XB d
  have hfl1 := ZJ L.hd L.hl (uG L.hF)
  have hov : x8 (cz .f32 1048576000) = true := by decide +kernel
  refine wQ (by omega) (tE hfl1 (uF (tE hov (Vw (tE (by decide +kernel) (vI ?_))))))
  rw [decide_eq_true (show (1 : Int) ≤ 20 ∧ (20 : Int) ≤ 32 by omega)]
  refine tT ⟨by omega, fun X hX => ?_⟩
  have key : ∀ (ks : List Nat) (E : Int) (u : List Nat) (es : List Int) (n : Nat), ku d E ks = true → VS u Us es → AllL E es → u.length = dl d → n + ks.length ≤ 21 → 1 ≤ n → X u (n : Int) := by
    intro ks
    induction ks with
    | nil => intro E u es n h; cases h
    | cons k ks ih =>
      intro E u es n h hu hes hul hn h1
      rw [ku, Bool.and_eq_true, Bool.or_eq_true] at h
      obtain ⟨os, rs, A, hc⟩ := L.one h.1 true hu hes hul
      rw [List.length_cons] at hn
      refine hX _ _ ⟨fun _ => ?_, fun c => absurd (show (n : Int) ≤ 20 by omega) c⟩
      refine qp (a := 2) (b := 2) (d := d) (by decide) (by decide) L.hd hul L.hl (hc rfl) (tT ?_)
      have hvl := A.len
      refine qd (ZJ L.hd A.len (vE A.vs)) hfl1 (by omega) hov (uG A.vz) (tT fun Y hY => ?_)
      have hrl := uW (fop .mul .f32 (cz .f32 1048576000) (cz .f32 1048576000)) (cyW true 2 2 d (cz .f32 1048576000) u f) f 0 (by omega)
      refine VG (Sz := fun a K => impl_size.wp a K) (fun a v K h1 _ h2 => Ut h1 h2) (by omega) (fun g i hi hs => ?_) (fun g hg => ?_) A.vz A.big
      · refine hY _ _ ⟨fun _ => ⟨by omega, ?_⟩, fun c => absurd (show (i : Int) < _ by omega) c⟩
        rw [nn, w1 (by omega)]; exact hs
      · refine hY _ _ ⟨fun c => absurd c (by omega), fun _ => ?_⟩
        rw [Yi hg zc8]
        refine ⟨fun c => hK _ os n A.vs (A.near (of_decide_eq_true c)) A.len h1 (by omega), fun c => ?_⟩
        rw [w1 (by omega)]
        rcases h.2 with hfin | hrun
        · exact absurd (A.ends hfin) (of_decide_eq_false c)
        · exact ih _ _ os (n + 1) hrun A.vs A.le A.len (by omega) (by omega)
  obtain ⟨ks, hks, hrun⟩ := zc7 d L.hd
  have hUl : Us.length = dl d := by have := X4 L.hE; have := L.flen; omega
  have hneg := Jw Us
  rw [hUl] at hneg
  rw [nn, hfl]
  exact key ks _ _ _ 1 hrun hneg (Jy L.hU) List.length_replicate (by omega) (by omega)
theorem Ym {K : List Nat → Int → Bool → Prop} (hK : ∀ (v : List Nat) (n : Int), K v n true) : spec_SolveCycles.wp f (cz .f32 1048576000) (cz .f32 1006632960) 20 K := by
  have hfl := L.hl
  have h15 := (qJ d L.hd).2
  have hp := XB d
  have hfl1 := ZJ L.hd L.hl (uG L.hF)
  have hov : x8 (cz .f32 1048576000) = true := by decide +kernel
  refine uY (by omega) (tE hfl1 (qR (tE hov (WC (tE (by decide +kernel) (Qf ?_))))))
  rw [decide_eq_true (show (1 : Int) ≤ 20 ∧ (20 : Int) ≤ 32 by omega)]
  refine tT ⟨by omega, fun X hX => ?_⟩
  have key : ∀ (ks : List Nat) (E : Int) (u : List Nat) (es : List Int) (n : Nat), ku d E ks = true → VS u Us es → AllL E es → u.length = dl d → n + ks.length ≤ 21 → 1 ≤ n → X u (n : Int) := by
    intro ks
    induction ks with
    | nil => intro E u es n h; cases h
    | cons k ks ih =>
      intro E u es n h hu hes hul hn h1
      rw [ku, Bool.and_eq_true, Bool.or_eq_true] at h
      obtain ⟨os, rs, A, hc⟩ := L.one h.1 false hu hes hul
      rw [List.length_cons] at hn
      refine hX _ _ ⟨fun _ => ?_, fun c => absurd (show (n : Int) ≤ 20 by omega) c⟩
      refine WF (a := 2) (b := 2) (d := d) (by decide) (by decide) L.hd hul L.hl ?_
      have hvl := A.len
      have hrl := uW (fop .mul .f32 (cz .f32 1048576000) (cz .f32 1048576000)) (cyW false 2 2 d (cz .f32 1048576000) u f) f 0 (by omega)
      refine jB (by omega) (by omega) ?_
      refine uy (by omega) (tE (vE A.vs) (uy (by omega) (tE (uG A.vz) fun Y hY => ?_)))
      refine VG (Sz := fun a K => spec_l03Size.wp a K) (fun a v K h1 h3 h2 => Uu h1 h3 h2) (by omega) (fun g i hi hs => ?_) (fun g hg => ?_) A.vz A.big
      · refine hY _ _ ⟨fun _ => ⟨by omega, ?_⟩, fun c => absurd (show (i : Int) < _ by omega) c⟩
        rw [nn, w1 (by omega)]; exact hs
      · refine hY _ _ ⟨fun c => absurd c (by omega), fun _ => ?_⟩
        rw [Yi hg zc8]
        refine ⟨fun c => hK _ _, fun c => ?_⟩
        rw [w1 (by omega)]
        rcases h.2 with hfin | hrun
        · exact absurd (A.ends hfin) (of_decide_eq_false c)
        · exact ih _ _ os (n + 1) hrun A.vs A.le A.len (by omega) (by omega)
  obtain ⟨ks, hks, hrun⟩ := zc7 d L.hd
  have hUl : Us.length = dl d := by have := X4 L.hE; have := L.flen; omega
  have hneg := Jw Us
  rw [hUl] at hneg
  rw [nn, hfl]
  exact key ks _ _ _ 1 hrun hneg (Jy L.hU) List.length_replicate (by omega) (by omega)
end
end Go.Proofs.Ytochgocgmeeppaa.G
namespace Go.Proofs.Ytochgocgmeeppaa.G
open Go Go.Ab
set_option maxRecDepth 100000
set_option maxHeartbeats 1000000
def Byt (l:List Int):Prop:=l.length≤2 ^ 30∧∀ x∈l,0≤x∧x<256
theorem KW (x:Int):0≤IntKind.i64.wrap (vL .and .u64 x 255)∧IntKind.i64.wrap (vL .and .u64 x 255)<256:=by
 have h:(BitVec.ofInt 64 x &&& BitVec.ofInt 64 255).toNat<256:=by
  rw [BitVec.toNat_and];exact Nat.lt_of_le_of_lt Nat.and_le_right (by decide)
 have e:vL .and .u64 x 255=((BitVec.ofInt 64 x &&& BitVec.ofInt 64 255).toNat:Int):=by
  show IntKind.u64.wrap ((BitVec.ofInt 64 x &&& BitVec.ofInt 64 255).toNat:Int)=_;show _ % 18446744073709551616=_;omega
 rw [e,wI (by omega)];omega
theorem XE {l:List Int} {a s:Int} {K:Int→Int→Int→Prop} (hl:Byt l) (ha:0≤a∧a≤2 ^ 40) (h:∀ v t,0≤v∧v<256→K v (a+1) t):spec_l00Src_next.wp l a s K:=by
 have ea:IntKind.i64.wrap (a+1)=a+1:=wI (by omega);refine⟨fun c=>⟨⟨ha.1,c⟩,fun c2=>?_,fun c2=>?_⟩,fun c=>⟨fun c2=>?_,fun c2=>?_⟩⟩
 ·rw [ea];have hi:a.toNat<l.length:=by omega
  rw [gD hi];have hb:=hl.2 _ (List.getElem_mem hi);rw [wI (by omega)];exact h _ _ hb
 ·rw [ea];exact h _ _ (KW _)
 ·rw [ea];exact h _ _ ⟨by decide,by decide⟩
 ·rw [ea];exact h _ _ (KW _)
theorem Jz {l:List Int} {a s n:Int} {K:Int→Int→Int→Prop} (hl:Byt l) (ha:0≤a∧a≤2 ^ 39) (hn:1≤n∧n≤2 ^ 40) (h:∀ v b t,0≤v∧v<n→a≤b∧b≤a+2→K v b t):spec_l00Src_pick.wp l a s n K:=by
 refine⟨fun c=>h _ _ _ (by omega) (by omega),fun c=>?_⟩;refine XE hl (by omega) fun v t hv=>⟨fun c2=>?_,fun c2=>⟨by omega,?_⟩⟩
 ·refine XE hl (by omega) fun w u hw=>⟨by omega,?_⟩;rw [wI (n:=v*256) (by omega),wI (n:=v*256+w) (by omega)];have e:=Int.tmod_eq_emod_of_nonneg (a:=v*256+w) (b:=n) (by omega);have h1:=Int.emod_nonneg (v*256+w) (show n≠0 by omega);have h2:=Int.emod_lt_of_pos (v*256+w) (show 0<n by omega);exact h _ _ _ (by omega) (by omega)
 ·have e:=Int.tmod_eq_emod_of_nonneg (a:=v) (b:=n) (by omega);have h1:=Int.emod_nonneg v (show n≠0 by omega);have h2:=Int.emod_lt_of_pos v (show 0<n by omega);exact h _ _ _ (by omega) (by omega)
abbrev Fl2:=List (List Nat)
def tot (l:Fl2):Nat:=(l.map List.length).sum
def FsOk (l:Fl2):Prop:=l.length≤2 ^ 20∧tot l≤2 ^ 25∧∀ z∈l,z.length≤2 ^ 20
def lsOk (l:Fl2) (s:Nat) (w:Int):Bool:=decide (l.length≤8)&&x8 s&&decide (1≤w∧w≤8)&&l.all fun x=>svOk x s
def YU (l:Fl2) (s:Nat) (w:Int):Fl2:=bif lsOk l s w then l.map fun x=>sv x s else []
theorem impl_ls {l : Fl2} {s : Nat} {w : Int} {K : Fl2 → Bool → Prop} (hl : FsOk l) (h : K (YU l s w) (lsOk l s w)) : impl_LinesShared.wp l s w K := by
  by_cases h8 : l.length ≤ 8
  · refine tN (by omega) (uF ?_)
    cases hs : x8 s with
    | false => exact tF (by have e : lsOk l s w = false := by simp [lsOk, hs]
                            rw [YU, e] at h; exact h)
    | true =>
      refine tT (vI ?_)
      by_cases hw : 1 ≤ w ∧ w ≤ 8
      · have e : lsOk l s w = l.all fun x => svOk x s := by simp [lsOk, hs, hw, h8]
        rw [YU, e] at h
        refine tE (decide_eq_true hw) ⟨w.toNat, by omega, by omega, by omega, fun o => sv (l.getD o []) s, fun o => svOk (l.getD o []) s, fun o ho K' hK => (sl_sv _ s (by rw [gD ho]; exact hl.2.2 _ (List.getElem_mem ho))).2.1 _ hK, ?_⟩
        have emap : ((List.range l.length).map fun o => sv (l.getD o []) s) = l.map fun x => sv x s := by
          apply List.ext_getElem (by simp)
          intro i h1 h2
          simp at h1
          simp [List.getElem?_eq_getElem h1]
        rw [emap]
        cases ha : (l.all fun x => svOk x s) with
        | true =>
          rw [ha] at h
          have h2 : ∀ o, o < l.length → svOk (l.getD o []) s = true := fun o ho => by rw [gD ho]; exact List.all_eq_true.1 ha _ (List.getElem_mem ho)
          exact .inl ⟨h2, fun o ho => sv_some (h2 o ho), h⟩
        | false =>
          rw [ha] at h
          refine .inr ⟨fun hx => ?_, h⟩
          have : (l.all fun x => svOk x s) = true := List.all_eq_true.2 fun x hx' => by
            obtain ⟨i, hi, rfl⟩ := List.getElem_of_mem hx'
            have := hx i hi
            show svOk l[i] s = true
            rw [← gD hi ([] : List Nat)]; exact this
          rw [ha] at this; cases this
      · have e : lsOk l s w = false := by simp only [lsOk, decide_eq_false hw]; simp
        exact tG (decide_eq_false hw) (by rw [YU, e] at h; exact h)
  · have e : lsOk l s w = false := by simp [lsOk, h8]
    exact tP (by omega) (by rw [YU, e] at h; exact h)
end Go.Proofs.Ytochgocgmeeppaa.G
