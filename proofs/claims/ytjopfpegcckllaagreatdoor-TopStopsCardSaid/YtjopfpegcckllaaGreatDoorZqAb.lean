/- A part of TopStops's proof: LowProd LowQuot LowCommon. -/
import Derived.StillTailTactics
import Derived.Deep.LoopGhost
import Derived.Deep.QuietTactic
import Derived.BigQuiet
import Derived.Lib.AppendZerosOnto
import Derived.Test.YtjopfpegcckllaaGreatDoorZqAa
set_option linter.unusedVariables false
set_option linter.unusedSimpArgs false
set_option maxRecDepth 100000
set_option maxHeartbeats 12800000
open Go.Proofs.Tryz
open Go renaming Oper→bt,Act→a6,World→O,Value→W,Calls→aj,maxLen→cm,TypeId→an,Ending→aO,wpList→bG,rounds_succ→a9
open Go.Ending renaming returned→aw
open Go.IntKind renaming u32→a7,i64→I
open Go.Lib renaming hid→G
open Go.Obj renaming cells→ao
open Go.Proofs.Tryz renaming prog→ae
open Go.RowKit renaming Hid→Y,intOf→aI
open Go.Value renaming tuple→aY,int→H,bool→J,slice→D
open Go.World renaming setCell→ag
open List renaming replicate→bA,take_length→co
open Nat renaming le_refl→a8,le_trans→aQ,zero_le→bn
open Option renaming some→U
variable {aV:Array bt}{Q:Go.Exit->a6->O->Prop}{j5 ki xi:Int}{a b j8 j9 l m o p q:List Nat}{pre rest:List W}{L N c g h i k n off x:Nat}{ab w w0:O}{u v:W}
namespace Go.Proofs.YtjopfpegcckllaaGreatDoor
open Go.RowKit
theorem rB (X a:Nat)(d:X<4294967296)(e:a<4294967296):bits BinOp.or IntKind.u64 (X:Int) ((a:Int)*4294967296)=((X+4294967296*a:Nat):Int):=by
 have b:=u64_or_nat X (a*4294967296) (by omega) (by omega);rw[Nat.or_comm,nat_join 32 _ _ (by omega) (by omega)]at b;have c:((a:Int)*4294967296)=((a*4294967296:Nat):Int):=by omega
 rw[c,b];omega
theorem rC (X:Nat)(b:X<4294967296):bits BinOp.or IntKind.u64 0 (X:Int)=(X:Int):=by
 have a:=u64_or_nat 0 X (by omega) (by omega);rw[Nat.zero_or]at a;exact a
def h8 (n:Nat):Nat:=if(E.words n).length<=2 then n else 0
def rD (n:Nat)(w:O)(e:aO)(a:O):Prop:=e=aw (aY #[H .u64 ((h8 n:Nat):Int),J (decide ((E.words n).length<=2))])/\w=a
theorem lV {x:Int}{b:Bool}(h1:x=h8 n)(h2:b=decide ((E.words n).length<=2)):rD n w (aw (aY #[H .u64 x,J b])) w:=⟨by rw[h1,h2],rfl⟩
theorem j6 (h:(E.words n).length<=2):h8 n=n:=if_pos h
theorem yJ (h:¬(E.words n).length<=2):h8 n=0:=if_neg h
theorem rG {v:W}{l:List Nat}{w:O}(h:Ws w v l)(p:l.length<=100000000000):
 aj ae 161 #[v] w (rD (E.val l) w):=by
 go_enter func161,ntmps161;go_wp2_with fail;refine(f5 h p).mono ?_;rintro b Q ⟨P,rfl,t,rfl⟩;have F:=fv h.ok p;generalize E.val l=a at*;obtain⟨g,e⟩:∃g,g=E.words a:=⟨_,rfl⟩;rw[<-e]at t F;have C:Y (E.val g=a):=G (by rw[e,E.bl]);have A:=G e;clear h p e;obtain⟨D,I,rfl,K,p3,f,m⟩:=t;clear p3
 match g,K,f,m,C,A,F with
 |[],K,f,m,C,A,F=>
  have c:Y (h8 a=0/\decide ((E.words a).length<=2)=true):=G (by
   have b:(E.words a).length<=2:=by rw[<-A.out];simp
   exact⟨by rw[j6 b,<-C.out];rfl,decide_eq_true b⟩)
  clear f m;go_wp2;refine wp_loop_rounds 1 ?_;rw[a9];go_wp2
  go_ret2
  exact lV (by rw[c.out.1];rfl) c.out.2.symm
 |[x],K,f,m,C,A,F=>
  have d:=E.lC f (i:=0) (by simp);obtain⟨y,o,rfl,hb,n⟩:=iQ m (k:=0) (by simp);simp only[List.getElem_cons_zero,Nat.add_zero]at d n;rw[E.bL]at d
  have c:Y (h8 a=x/\decide ((E.words a).length<=2)=true):=G (by
   have b:(E.words a).length<=2:=by rw[<-A.out];simp
   exact⟨by rw[j6 b,<-C.out];simp[E.val],decide_eq_true b⟩)
  have B:=rC x d;clear f m;go_wp2;refine wp_loop_rounds 2 ?_;rw[a9];go_wp2;rw[a9];go_wp2
  go_ret2
  exact lV (by rw[c.out.1]) c.out.2.symm
 |[x,M],K,f,m,C,A,F=>
  have d:=E.lC f (i:=0) (by simp);have s:=E.lC f (i:=1) (by simp);obtain⟨y,o,u,hb,n⟩:=iQ m (k:=0) (by simp);obtain⟨H,N,j,J,z⟩:=iQ m (k:=1) (by simp);rw[u]at j;simp at j;obtain⟨rfl,rfl⟩:=j;subst u;simp only[List.getElem_cons_zero,List.getElem_cons_succ,Nat.add_zero]at d s n z;rw[E.bL]at d s
  have c:Y (h8 a=x+4294967296*M/\decide ((E.words a).length<=2)=true):=G (by
   have b:(E.words a).length<=2:=by rw[<-A.out];simp
   exact⟨by rw[j6 b,<-C.out];simp[E.val,E.bL],decide_eq_true b⟩)
  have B:=rC x d;have L:=rB x M d s;clear f m;go_wp2;refine wp_loop_rounds 3 ?_;rw[a9];go_wp2;rw[a9];go_wp2;rw[a9];go_wp2
  go_ret2
  exact lV (by rw[c.out.1];first|rfl|simp) c.out.2.symm
 |x::M::R::r,K,f,m,C,A,F=>
  have c:Y (h8 a=0/\decide ((E.words a).length<=2)=false):=G (by
   have b:¬(E.words a).length<=2:=by rw[<-A.out];simp
   exact⟨yJ b,decide_eq_false b⟩)
  clear f m;simp only[List.length_cons]at K F|-;generalize r.length=q at*;go_wp2
  go_ret2
  exact lV (by rw[c.out.1];rfl) c.out.2.symm
theorem yK (a:E.Ok l)(b:E.trim l=l)(c:E.val l=n):E.words n=l:=by rw[<-c,E.jN a,b]
theorem yL (h:∀x∈l,x<4294967296):E.Ok l:=by rw[<-E.bL]at h;exact h
theorem yM (h0:n≠0)(h:n<4294967296):E.words n=[n]:=yK (yL (by simpa using h)) (by simp[E.trim,h0]) (by simp[E.val])
theorem gM (h:n<4294967296):(E.words n).length<=1:=by
 rw[E.eo,Nat.pow_one,E.bL];exact h
theorem ou (ha:Ws w v a)(hb:Ws w u b)(g:a.length<=100000000000)(i:b.length<=100000000000):
 aj ae 163 #[v,u] w λe c=>e=aw (H I (E.dk (E.val a) (E.val b)))/\V w c:=
 (lT ha hb g i).mono λe c ⟨j,d,f⟩=>⟨d,by rw[f];exact(V.refl w).drewN j⟩
theorem rH (h:N<2^(32*k))(a:i<=4096):(E.words (N*2^i)).length<=k+128:=by
 rw[E.eo,E.hX];refine Nat.lt_of_lt_of_le (Nat.mul_lt_mul_of_pos_right h (Nat.two_pow_pos i)) ?_;rw[<-Nat.pow_add];exact Nat.pow_le_pow_right (by omega) (by omega)
theorem yN:E.words 1=[1]:=yM (by omega) (by omega)
def rI (i:Int)(w:O)(e:aO)(a:O):Prop:=e=aw (H I i)/\V w a
theorem rJ {i j:Int}(h:i=j)(a:V w ab):rI j w (aw (H I i)) ab:=⟨by rw[h],a⟩
theorem rK (h:Ws w v l)(n:l.length<=10000000000):
 aj ae 177 #[v] w (rI (E.bD (E.val l):Nat) w):=by
 go_enter func177,ntmps177;go_wp2_with fail;refine(eI h (by omega)).mono ?_;intro y w1 A;obtain⟨K,rfl,f,i,j⟩:=A;have f:=Ws.hn f i;have z:=fv h.ok n;have b:= @E.qV (E.val l);have b:=G b;have q:(E.words (E.val l)).length=0->E.bD (E.val l)=0:=λe=>by rw[E.hq.1 e,E.jO]
 have d:=G q;clear q;generalize E.bD (E.val l)=D at*;generalize E.words (E.val l)=a at*;clear h n;have g:=G j;clear j;obtain⟨C,H,rfl,B,p3,s,t⟩:=f;have x:=G s;clear p3 s i
 by_cases e:a.length=0
 .have aq:=G (d.out e);clear b d;go_wp2;go_ret;exact rJ (by rw[aq.out];rfl) g.out
 .have aq:=G (b.out (by omega));have m:a.length-1<a.length:=by omega
  obtain⟨F,o,rfl,hb,k⟩:=ed t m;have c:=E.cW x.out (a.length-1);have I:=(E.lG 32 (a.getD (a.length-1) 0)).2 (by rw[<-E.lB];exact c);generalize a.getD (a.length-1) 0=u at*;obtain⟨r,p⟩:∃r,a.length=r+1:=⟨a.length-1,by omega⟩;rw[p]at aq z B k|-;rw[Nat.add_sub_cancel]at aq k;clear b d m p t;have J:u<4294967296:=by rw[E.bL]at c;exact c
  go_wp2_with fail;refine(rq u rfl c _).mono ?_;rintro y w2 ⟨rfl,rfl⟩;go_wp2;go_ret;exact rJ (by rw[aq.out];omega) g.out
theorem h9 {rest:List bt}{o:bt}{a:a6}(c:o.guard=none)(x y:Operand)(t u:an)
 (d:o.op= .call {callee:= .builtin .max,args:=#[x,y],argTypes:=#[t,u]}){k:IntKind}{m n:Int}(e:a.eval x=H k m)(f:a.eval y=H k n){bQ:Int}(g:bQ=if n>m then n else m)
 (h:bG ae aV Q rest (a.put o.dst (H k bQ)) w):bG ae aV Q (o::rest) a w:=by
 refine wpList_plain c λi b=> ?_
 unfold Oper.wp execOp;simp only[d,resolve,invoke,builtin,Sem.run_bind,Sem.run_pure,Result.andThen_ok,List.map_toArray,List.map_cons,List.map_nil,e,f,Builtin.max_,Builtin.max2,List.foldlM_cons,List.foldlM_nil,bind_pure_comp,map_pure];exact b _ _ (by rw[<-g];exact h)
theorem ov {rest:List bt}{o:bt}{a:a6}(c:o.guard=none)(x y:Operand)(t u:an)
 (d:o.op= .call {callee:= .builtin .min,args:=#[x,y],argTypes:=#[t,u]}){k:IntKind}{m n:Int}(e:a.eval x=H k m)(f:a.eval y=H k n){bQ:Int}(g:bQ=if n<m then n else m)
 (h:bG ae aV Q rest (a.put o.dst (H k bQ)) w):bG ae aV Q (o::rest) a w:=by
 refine wpList_plain c λi b=> ?_
 unfold Oper.wp execOp;simp only[d,resolve,invoke,builtin,Sem.run_bind,Sem.run_pure,Result.andThen_ok,List.map_toArray,List.map_cons,List.map_nil,e,f,Builtin.min_,Builtin.min2,List.foldlM_cons,List.foldlM_nil,bind_pure_comp,map_pure];exact b _ _ (by rw[<-g];exact h)
theorem yO {rest:List bt}{o:bt}{a:a6}(c:o.guard=none)(x y:Operand)(t u:an)
 (e:o.op= .binOp .shl t x y u){k l:IntKind}{m n:Int}(f:a.eval x=H k m)(g:a.eval y=H l n){bQ:Int}(i:0<=n/\k.wrap (m*2^min n.toNat k.bits)=bQ)
 (h:bG ae aV Q rest (a.put o.dst (H k bQ)) w):bG ae aV Q (o::rest) a w:=by
 refine wpList_plain c λj b=> ?_
 unfold Oper.wp execOp;have d:¬n<0:=by omega
 simp[e,f,g,eqGuard,binOp,Op.shift,d,i.2];exact b _ _ h
theorem yP (x i a:Nat)(f:a=x*2^(i%32))(h:a<18446744073709551616)(g:x<E.B):0<=(i:Int)%32/\IntKind.u64.wrap (IntKind.u64.wrap (x:Int)*2^min ((i:Int)%32).toNat IntKind.u64.bits)=(a:Int):=by
 have b:((i:Int)%32).toNat=i%32:=by omega
 have c:min (i%32) IntKind.u64.bits=i%32:=by show min (i%32) 64=i%32;omega
 have e:IntKind.u64.wrap (x:Int)=(x:Int):=by rw[IntKind.wrap_u64];rw[E.bL]at g;omega
 refine⟨by omega,?_⟩;rw[b,c,e];have d:(x:Int)*2^(i%32)=(a:Int):=by rw[f,Int.natCast_mul,Int.natCast_pow];rfl
 rw[d,IntKind.wrap_u64];omega
theorem yQ (x i a z:Nat)(g:a=x*2^(i%32))(e:z<2^(i%32)):bits BinOp.or a7 (z:Int) ((a:Int)%4294967296)=((z+a%E.B:Nat):Int)/\z+a%E.B<E.B:=by
 have hb:i%32<32:=Nat.mod_lt _ (by omega);have b:=E.qW (x:=x) hb;have c:=E.xc (x:=x) hb e;rw[<-g]at b c;refine⟨?_,c⟩;rw[E.bL]at b c|-;have d:=u32_or_nat z (a%4294967296) (by omega) (by omega)
 have f:(z|||a%4294967296)=z+a%4294967296:=by
  obtain⟨k,j⟩:=Nat.dvd_of_mod_eq_zero b;rw[j,Nat.or_comm,<-Nat.two_pow_add_eq_or_of_lt e,Nat.add_comm]
 rw[f]at d;rw[show((a:Int)%4294967296)=((a%4294967296:Nat):Int)from by omega];exact d
theorem yR (b:x<E.B):x*2^(i%32)<18446744073709551616:=by
 have hb:i%32<32:=Nat.mod_lt _ (by omega);have a:(2:Nat)^(i%32)<=2^32:=Nat.pow_le_pow_right (by omega) (by omega);rw[E.bL]at b;have c:x*2^(i%32)<=x*2^32:=Nat.mul_le_mul_left x a;omega
theorem rL (n:Int):((n.toNat:Nat):Int)=if(0:Int)>n then 0 else n:=by split<;>omega
theorem yS (x y k:Nat):(((x:Int)+4294967296*(y:Int))/2^k%4294967296)=(((x+E.B*y)/2^k%E.B:Nat):Int):=by rw[E.bL,Int.natCast_emod,Int.natCast_ediv,Int.natCast_add,Int.natCast_mul,Int.natCast_pow];rfl
theorem yT (x k:Nat):((x:Int)/2^k%4294967296)=((x/2^k%E.B:Nat):Int):=by rw[E.bL,Int.natCast_emod,Int.natCast_ediv,Int.natCast_pow];rfl
theorem yU {n:Int}(h:Ws w v l)(aJ:l.length<=10000000000)(am: -9223372036854775808<=n/\n<=9223372036854775807):
 aj ae 168 #[v,H I n] w (gK (E.words (E.val l/2^n.toNat)) w):=by
 have M:=rL n;have aH:n.toNat<=9223372036854775807:=by omega
 generalize n.toNat=i at*;have C:=G M;clear am M;obtain⟨aw,az,rfl,aN,p3,y,T⟩:=h;have f:=G y;have p:= @E.xk l y (i/32) (i%32);rw[Nat.div_add_mod]at p;have B:=G p;clear p3 y p
 by_cases ai:l.length<=i/32
 .have aq:=G (B.out ai);go_enter func168,ntmps168;go_wp2_with(with_reducible show bG _ _ _ _ _ _;refine h9 (o:=⟨U 11,_,_,_,_,_⟩) rfl _ _ _ _ rfl rfl rfl C.out ?_);go_ret;refine⟨_,rfl,?_,V.refl _⟩;rw[aq.out,E.en];exact Ws.nil _
 .obtain⟨a,aB⟩:∃a,l.length=i/32+a:=⟨l.length-i/32,by omega⟩;have hb:i%32<32:=Nat.mod_lt _ (by omega);have s:=λ(o:List Nat) (c:o.length=a) r=>E.xj (w:=i/32) (b:=i%32) (o:=o) f.out (by omega) (by rw[c];omega) r
  rw[Nat.div_add_mod,show l.length-i/32=a from by omega]at s;have aa:=G s;have Q:=λk o (P:k<o.length) r=>E.xh (w:=i/32) (b:=i%32) (i:=k) (o:=o) f.out hb P r
  have ag:=G Q;have af:=G (λo=>E.xf l o (i/32) (i%32));clear B s Q;go_enter func168,ntmps168;go_wp2_with(first|(with_reducible show bG _ _ _ _ _ _;refine h9 (o:=⟨U 11,_,_,_,_,_⟩) rfl _ _ _ _ rfl rfl rfl C.out ?_)|(at_make;go_loud (refine iR rfl _ _ rfl a rfl rfl ?_ ?_ ?_)))
  .omega
  .omega
  intro w1 q ao;have F:Y ((bA a 0).length=a):=G (by rw[List.length_replicate]);have J:=G (E.iK a);generalize bA a 0=S at q F J;go_wp2_with fail
  go_loopw[27] (λz wr=> ∃(k:Nat) (o:List Nat),z=H I k/\k<=a/\Y (o.length=a)/\Y (E.Ok o)/\bH wr w.heap.size o/\V w wr/\Y (E.hY l o (i/32) (i%32) k)) (λz _=>a-(aI z).toNat)
  case atStart=>exact⟨0,S,rfl,bn _,F,J,q,ao,G (af.out _)⟩
  case round=>
   obtain⟨k,o,rfl,P,c,j,d,e,A⟩:=hrel
   by_cases aK:k<a
   .have t:=E.cW f.out (i/32+k);have u:=E.cW f.out (i/32+k+1);have N:k<o.length:=by rw[c.out];omega
    have g:=G (ag.out k o N A.out);have aF:=d.dO N;have aG:=d.free k;obtain⟨ax,S,rfl,q,aD⟩:=ed (T.up e) (k:=i/32+k) (by omega)
    by_cases al:i/32+k+1<l.length
    .obtain⟨ay,aM,K,aC,aE⟩:=ed (T.up e) al;simp at K;obtain⟨rfl,rfl⟩:=K;generalize l.getD (i/32+k) 0=x at*;generalize l.getD (i/32+k+1) 0=X at*;generalize o.getD k 0=av at*;rw[E.bL]at t u;have aL:=rB x X t u;have m:=G (E.eB j.out k (x:=(x+E.B*X)/2^(i%32)%E.B) (Nat.mod_lt _ E.b0));go_wp2
     go_roundw
     case rel=>exact⟨k+1,_,by go_num,by omega,G (by rw[List.length_set];exact c.out),m,by rw[yS];exact d.set k _,e.setCell (a8 _) _,g⟩
     case measure=>simp[aI];omega
    .have R:=lR l (i:=i/32+k+1) (by omega);rw[R,Nat.mul_zero,Nat.add_zero]at g;clear R u;generalize l.getD (i/32+k) 0=x at*;generalize o.getD k 0=av at*;rw[E.bL]at t;have m:=G (E.eB j.out k (x:=x/2^(i%32)%E.B) (Nat.mod_lt _ E.b0));go_wp2
     go_roundw
     case rel=>exact⟨k+1,_,by go_num,by omega,G (by rw[List.length_set];exact c.out),m,by rw[yT];exact d.set k _,e.setCell (a8 _) _,g⟩
     case measure=>simp[aI];omega
   .obtain rfl:k=a:=by omega
    have Z:=G (aa.out o c.out A.out)
    have ar:Ws wr (D (U ⟨w.heap.size,0,none⟩) k k) o:=by
     have:=d.ws j.out (by rw[c.out];unfold maxLen;omega);rw[c.out]at this;exact this
    have ab:Y (o.length<=100000000000):=G (by rw[c.out];omega);go_wp2_with fail;refine(eI ar ab.out).mono ?_;intro aA w2 an;obtain⟨au,rfl,L,ah⟩:=an.ws;rw[Z.out]at L;have ak:=e.trans ah;go_wp2;go_ret;exact⟨au,rfl,L,ak⟩
theorem yV :((min n 4096:Nat):Int)=if(4096:Int)<(n:Int)then 4096 else(n:Int):=by split<;>omega
theorem rM {n:Int}(h:Ws w v l)(aK:l.length<=10000000000)(aq: -9223372036854775808<=n/\n<=9223372036854775807):
 aj ae 166 #[v,H I n] w (j3 (E.words (E.val l*2^min n.toNat 4096)) w):=by
 have K:=rL n;have af:=G K;have ag:=G (yV (n:=n.toNat));have aJ:min n.toNat 4096<=4096:=by omega
 generalize min n.toNat 4096=i at*;generalize n.toNat=aL at*;clear aq K;obtain⟨az,aB,rfl,aM,p3,T,aw⟩:=h;have C:=G T;clear p3 T;have hb:i%32<32:=Nat.mod_lt _ (by omega);have q:=λ(o:List Nat) (c:o.length=i/32+l.length+1) p=>E.xe (a:=l) (w:=i/32) (b:=i%32) (o:=o) c p
 rw[Nat.div_add_mod]at q;have aa:=G q;have P:=λk o (N:i/32+k+1<o.length) p=>E.xd (a:=l) (w:=i/32) (b:=i%32) (i:=k) (o:=o) hb (E.cW C.out k) N p
 have ak:=G P;have y:=G (λn=>E.xb l n (i/32) (i%32));clear q P;go_enter func166,ntmps166;go_wp2_with(first|(with_reducible show bG _ _ _ _ _ _;refine h9 (o:=⟨U 12,_,_,_,_,_⟩) rfl _ _ _ _ rfl rfl rfl af.out ?_)|(with_reducible show bG _ _ _ _ _ _;refine ov (o:=⟨U 13,_,_,_,_,_⟩) rfl _ _ _ _ rfl rfl rfl ag.out ?_)|(at_make;go_loud (refine iR rfl _ _ rfl (i/32+l.length+1) rfl rfl ?_ ?_ ?_)))
 .omega
 .omega
 intro w1 m au;have z:Y ((bA (i/32+l.length+1) 0).length=i/32+l.length+1):=G (by rw[List.length_replicate]);have B:=G (E.iK (i/32+l.length+1));have A:=G (y.out (i/32+l.length+1));generalize bA (i/32+l.length+1) 0=S at m z B A;clear y;go_wp2_with fail
 go_loopw[26] (λr wr=> ∃(k:Nat) (o:List Nat),r=H I k/\k<=l.length/\Y (o.length=i/32+l.length+1)/\Y (E.Ok o)/\bH wr w.heap.size o/\V w wr/\Y (E.jS l o (i/32) (i%32) k)) (λr _=>l.length-(aI r).toNat)
 case atStart=>exact⟨0,S,rfl,bn _,z,B,m,au,A⟩
 case round=>
  obtain⟨k,o,rfl,N,c,t,e,g,j⟩:=hrel
  by_cases ao:k<l.length
  .have Q:=E.cW C.out k;have an:i/32+k<o.length:=by rw[c.out];omega
   have M:i/32+k+1<o.length:=by rw[c.out];omega
   have s:=G (ak.out k o M j.out);have aE:=e.dO an;have aG:=e.free (i/32+k);have aF:=e.dO M;have aH:=e.free (i/32+k+1);have R:=G j.out.1;obtain⟨aA,S,rfl,m,aD⟩:=ed (aw.up g) (k:=k) ao;generalize l.getD k 0=x at*;generalize o.getD (i/32+k) 0=ay at*;generalize o.getD (i/32+k+1) 0=aN at*;have L:=yR (i:=i) Q;obtain⟨d,f⟩:∃d,d=x*2^(i%32):=⟨_,rfl⟩;have ai:=G (yP x i d f (by rw[f];exact L) Q);rw[<-f]at s L;have u:=G (yQ x i d ay f R.out);have ah:=G (E.eB (E.eB t.out (i/32+k) u.out.2) (i/32+k+1) (x:=d/E.B) (by rw[E.bL];omega));have eq:((d:Int)/4294967296)=((d/E.B:Nat):Int):=by rw[E.bL];omega
   have X:=G eq;clear f eq R hb;go_wp2_with(with_reducible show bG _ _ _ _ _ _;refine yO (o:=⟨U 34,_,_,_,_,_⟩) rfl _ _ _ _ rfl rfl rfl ai.out ?_)
   go_roundw
   case rel=>
    rw[u.out.1,X.out];exact⟨k+1,_,by go_num,by omega,G (by rw[List.length_set,List.length_set];exact c.out),ah,(e.set _ _).set _ _,(g.setCell (a8 _) _).setCell (a8 _) _,s⟩
   case measure=>simp[aI];omega
  .obtain rfl:k=l.length:=by omega
   have Z:=G (aa.out o c.out j.out)
   have av:Ws wr (D (U ⟨w.heap.size,0,none⟩) (i/32+l.length+1) (i/32+l.length+1)) o:=by
    have:=e.ws t.out (by rw[c.out];unfold maxLen;omega);rw[c.out]at this;exact this
   have ab:Y (o.length<=100000000000):=G (by rw[c.out];omega);go_wp2_with fail;refine(eI av ab.out).mono ?_;rintro aC w2 ⟨ax,rfl,F,J,al⟩;rw[Z.out]at F J;have ar:=g.size;have am:V w w2:=g.trans al;go_wp2;go_ret;exact⟨ax,rfl,yD F ar,J,am⟩
def cg (w:O)(g:Nat)(l:List Nat)(rest:List W):Prop:=w.heap[g]? =U (ao (l.map wv++rest).toArray 186 (0,0))
theorem rN {base:Nat}(h:w.ownsRow base 186 1 v n (l.map wv))(m:0<n):
 ∃g c rest,v=D (U ⟨g,0,none⟩) n c/\base<=g/\n<=c/\c<=cm/\cg w g l rest:=by
 rcases h.2 with⟨k,rfl⟩|⟨g,a,b,j,hb,f,d,e,_,i⟩
 .have:=h.1;simp at this;omega
 .refine⟨g,a,b.toList.drop (n*1),j,hb,d,e,?_⟩;unfold cg;rw[f,<-i,List.take_append_drop]
theorem cg.lt (h:cg w g l rest):g<w.heap.size:=(Array.getElem?_eq_some_iff.1 h).1
theorem cg.dO (h:cg w g l rest)(a:i<l.length):w.cell? ⟨g,i,none⟩=U (H a7 ((l.getD i 0:Nat):Int)):=by
 rw[j4 l a,cell_of_row w g i _ _ (0,0) h];simp only[List.getElem?_toArray];rw[List.getElem?_append_left (by simpa using a)];simp[wv,a]
theorem cg.free (h:cg w g l rest)(i:Nat):w.frozen? ⟨g,i,none⟩=false:=by
 unfold cg at h;simp[World.frozen?,h]
theorem cg.set {w:O}{g:Nat}{l:List Nat}{rest:List W}(h:cg w g l rest){i:Nat}(a:i<l.length)(x:Nat):cg (w.setCell ⟨g,i,none⟩ (H a7 (x:Int))) g (l.set i x) rest:=by
 unfold cg at h|-;simp only[ag,Array.getElem?_modify,h];simp[wv,List.map_set,List.set_append,a]
theorem cg.drew {w:O}{g:Nat}{l:List Nat}{rest:List W}(h:cg w g l rest):cg w.drew g l rest:=h
theorem cg.ws (h:cg w g l rest)(f:E.Ok l)(b:l.length<=c)(e:c<=cm):Ws w (D (U ⟨g,0,none⟩) l.length c) l:=
 Ws.mk rfl b e f λ_=>⟨g,0,rfl,h.lt,λj u a=>by
  rw[Nat.zero_add,cell_of_row w g j _ _ (0,0) h]
  have d:j<(l.map wv).length:=by
   rcases Nat.lt_or_ge j (l.map wv).length with h|h
   .exact h
   .rw[List.getElem?_eq_none h]at a;cases a
  simp only[List.getElem?_toArray];rw[List.getElem?_append_left d];exact a⟩
def yW (w0:O)(g:Nat)(o a:List Nat)(x c k:Nat)(e:aO)(d:O):Prop:=
 e=aw (aY #[])/\ ∃b,bH d g b/\E.Ok b/\b.length=o.length/\(E.val b=E.val o+E.B^k*(x*E.val a+c)/\E.val (b.drop (k+a.length+1))=0)/\V w0 d
theorem rO (k x c:Nat)(T:ki=k)(ab:xi=x)(Q:j5=c)(bx:x<E.B)(r:c<E.B)(ha:Ws w0 v a)(P:o.length=N)
 (hb:bH w g o)(u:E.Ok o)(aa:V w0 w)(s:w0.heap.size<=g)(X:k+a.length<o.length)(ao:o.length<=100000000000)(i:E.val (o.drop (k+a.length))=0):
 aj ae 111 #[D (U ⟨g,0,none⟩) N N,H I ki,v,H a7 xi,H a7 j5] w (yW w0 g o a x c k):=by
 subst T ab Q P;obtain⟨ai,al,rfl,ax,p3,z,af⟩:=ha;have M:=G z;have L:=G i;have K:=G u;have B:=G r;clear p3 z i u r;have au:k<o.length:=by omega
 go_enter func111,ntmps111;go_wp2
 go_loopw[4,14] (λag q wr=> ∃(b cy:Nat) (p:List Nat),ag=H a7 cy/\q=H I b/\b<=a.length/\Y (E.Ok p)/\bH wr g p/\V w0 wr/\Y (E.jT a o p x c k b cy)) (λ_ q _=>a.length-(aI q).toNat)
 case atStart=>exact⟨0,c,o,rfl,rfl,bn _,K,hb,aa,G (E.xl a o x c k B.out)⟩
 case round=>
  obtain⟨b,cy,p,rfl,rfl,ar,f,e,n,d⟩:=hrel
  by_cases Z:b<a.length
  .have y:=E.cW M.out b;have i:=E.cW f.out (k+b);have l:=d.out.1;have m:k+b<p.length:=by rw[d.out.2.1];omega
   have J:=G (E.xn (by omega) f.out bx y d.out);have j:=G (E.eB f.out (k+b) (E.iL x (a.getD b 0) (p.getD (k+b) 0) cy));have R:=e.dO m;have S:=e.free (k+b);obtain⟨ak,aw,rfl,an,aq⟩:=ed (af.up n) Z;have av:k+b<o.length:=by omega
   generalize a.getD b 0=ah at*;generalize p.getD (k+b) 0=A at*;go_wp2_with fail;refine(lQ x ah A cy rfl rfl rfl rfl bx y i l _).mono ?_;rintro am w2 ⟨rfl,rfl⟩;go_wp2
   go_roundw
   case rel=>exact⟨b+1,_,_,rfl,by go_num,by omega,j,e.set _ _,n.setCell s _,J⟩
   case measure=>simp[aI];omega
  .obtain rfl:b=a.length:=by omega
   have l:=d.out.1;have m:k+a.length<p.length:=by rw[d.out.2.1];omega
   have t:(p.set (k+a.length) cy).length=o.length:=by rw[List.length_set];exact d.out.2.1
   have C:=G (E.xp X L.out d.out);have j:=G (E.eB f.out (k+a.length) l);have F:=G t;have R:=e.dO m;have S:=e.free (k+a.length);clear t;generalize p.getD (k+a.length) 0=A at*;go_wp2
   go_end0
   exact⟨rfl,_,e.set _ _,j.out,F.out,C.out,n.setCell s _⟩
theorem ow (x c:Nat)(B:xi=x)(t:j5=c)(bx:x<E.B)(p:c<E.B)(ha:Ws w v a)(K:a.length<=10000000000):
 aj ae 241 #[v,H a7 xi,H a7 j5] w (gK (E.words (x*E.val a+c)) w):=by
 subst B t;obtain⟨I,J,rfl⟩:=ha.form;go_enter func241,ntmps241;go_wp2_with(at_make;go_loud (refine iR rfl _ _ rfl (a.length+1) rfl rfl ?_ ?_ ?_))
 .omega
 .omega
 intro w1 k z;have b:Y ((bA (a.length+1) 0).length=a.length+1):=G (by rw[List.length_replicate]);have g:=G (E.iK (a.length+1));have i:=G (E.jM (a.length+1));have f:Y (E.val ((bA (a.length+1) 0).drop (0+a.length))=0):=G (by rw[List.drop_replicate,E.jM]);generalize bA (a.length+1) 0=C at k b g i f;go_wp2_with fail;refine(rO (w0:=w) (a:=a) (o:=C) 0 x c rfl rfl rfl bx p ha b.out k g.out z (a8 _) (by rw[b.out];omega) (by rw[b.out];omega) f.out).mono ?_;rintro q w2 ⟨rfl,l,s,k2,d,⟨e,d2⟩,u2⟩;rw[b.out]at d;rw[i.out,Nat.pow_zero,Nat.one_mul,Nat.zero_add]at e
 have A:Ws w2 (D (U ⟨w.heap.size,0,none⟩) (a.length+1) (a.length+1)) l:=by
  have:=s.ws k2 (by rw[d];unfold maxLen;omega);rw[d]at this;exact this
 have n:=G e;have m:Y (l.length<=100000000000):=G (by rw[d];omega);clear e d d2 k2;go_wp2_with fail;refine(eI A m.out).mono ?_;intro q w3 y;obtain⟨F,rfl,j,r⟩:=y.ws;rw[n.out]at j;have u:=u2.trans r;go_wp2;go_ret;exact⟨F,rfl,j,u⟩
theorem jj (ha:Ws w v a)(hb:Ws w u b)(ao:a.length<=10000000000)(aq:b.length<=10000000000):
 aj ae 72 #[v,u] w (gK (E.words (E.val a*E.val b)) w):=by
 have N:=ha;obtain⟨ah,al,rfl⟩:=ha.form;obtain⟨ai,d2,rfl,ar,aa,x,ab⟩:=hb;have F:=G x;clear aa x ha;go_enter func72,ntmps72;go_wp2_with(at_make;go_loud (refine iR rfl _ _ rfl (a.length+b.length+1) rfl rfl ?_ ?_ ?_))
 .omega
 .omega
 intro w1 g T;have n:Y ((bA (a.length+b.length+1) 0).length=a.length+b.length+1):=G (by rw[List.length_replicate]);have p:=G (E.iK (a.length+b.length+1));have l:=G (E.xq a b (a.length+b.length+1));generalize bA (a.length+b.length+1) 0=t at g n p l;go_wp2_with fail
 go_loopw[17] (λk wr=> ∃(c:Nat) (o:List Nat),k=H I c/\c<=b.length/\Y (o.length=a.length+b.length+1)/\Y (E.Ok o)/\bH wr w.heap.size o/\V w wr/\Y (E.lJ a b o c)) (λk _=>b.length-(aI k).toNat)
 case atStart=>exact⟨0,t,rfl,bn _,n,p,g,T,l⟩
 case round=>
  obtain⟨c,o,rfl,an,d,m,r,i,e⟩:=hrel
  by_cases R:c<b.length
  .have Z:=E.cW F.out c;have B:=G (λo' K L=>E.xr (o':=o') e.out K L);obtain⟨ak,t,rfl,g,am⟩:=ed (ab.up i) R;generalize b.getD c 0=ag at*;go_wp2_with fail;refine(rO (w0:=w) (a:=a) (o:=o) c ag 0 rfl rfl rfl Z E.b0 N d.out r m.out i (a8 _) (by rw[d.out];omega) (by rw[d.out];omega) e.out.2).mono ?_;rintro J w2 ⟨rfl,j,P,k2,s,⟨y,d2⟩,u2⟩;have z:=G (B.out j y d2);have f:Y (j.length=a.length+b.length+1):=G (by rw[s];exact d.out);have A:=G k2;clear y d2 s k2;go_wp2
   go_roundw
   case rel=>exact⟨c+1,j,by go_num,by omega,f,A,P,u2,z⟩
   case measure=>simp[aI];omega
  .obtain rfl:c=b.length:=by omega
   have X:Ws wr (D (U ⟨w.heap.size,0,none⟩) (a.length+b.length+1) (a.length+b.length+1)) o:=by
    have:=r.ws m.out (by rw[d.out];unfold maxLen;omega);rw[d.out]at this;exact this
   have C:Y (E.val o=E.val a*E.val b):=G (by have:=e.out.1;rw[co]at this;exact this);have f:Y (o.length<=100000000000):=G (by rw[d.out];omega);go_wp2_with fail;refine(eI X f.out).mono ?_;intro J w3 S;obtain⟨af,rfl,q,M⟩:=S.ws;rw[C.out]at q;have Q:=i.trans M;go_wp2;go_ret;exact⟨af,rfl,q,Q⟩
def cd (g:Nat)(w a:O):Prop:=w.grownBy a (U g)
theorem cd.refl (g:Nat)(w:O):cd g w w:=⟨rfl,rfl,rfl,a8 _,λ_ _ _=>rfl⟩
theorem cd.trans {g:Nat}{a b c:O}(h:cd g a b)(k:cd g b c):cd g a c:=
 ⟨k.os.trans h.os,k.tape.trans h.tape,k.output.trans h.output,aQ h.size k.size,λi d e=>(k.block i (Nat.lt_of_lt_of_le d h.size) e).trans (h.block i d e)⟩
theorem cd.GK (h:V w ab):cd g w ab:=⟨h.os,h.tape,h.output,h.size,λk a _=>h.block k a⟩
theorem cd.set {a:O}(h:cd g a w)(i:Nat)(u:W):cd g a (w.setCell ⟨g,i,none⟩ u):=by
 refine h.trans ⟨rfl,rfl,rfl,by simp[ag],λk c b=> ?_⟩;have:k≠g:=λe=>b (by rw[e])
 simp[ag,Array.getElem?_modify,Ne.symm this]
theorem cd.wj {a:O}(k:cd g a w)(e:a.heap.size<=h)(i:Nat)(u:W):cd g a (w.setCell ⟨h,i,none⟩ u):=by
 refine⟨k.os,k.tape,k.output,aQ k.size (by simp[ag]),λj b c=> ?_⟩;have d:h≠j:=by omega
 rw[<-k.block j b c];simp[ag,Array.getElem?_modify,d]
theorem cd.drew {g:Nat}{a w:O}(h:cd g a w):cd g a w.drew:=h.trans ⟨rfl,rfl,rfl,a8 _,λ_ _ _=>rfl⟩
theorem cd.drewN {g:Nat}{a w:O}(h:cd g a w)(n:Nat):cd g a (w.drewN n):=h.trans ⟨rfl,rfl,rfl,a8 _,λ_ _ _=>rfl⟩
theorem cd.up (c:V w0 w)(h:cd g w ab)(a:w0.heap.size<=g):V w0 ab:=c.grown h (λk b=>by cases b;exact a)
theorem cd.size {g:Nat}{w ab:O}(h:cd g w ab):w.heap.size<=ab.heap.size:=World.grownBy.size h
theorem cd.heap {g k:Nat}{w ab:O}(h:cd g w ab)(a:k<w.heap.size)(b:k≠g):ab.heap[k]? =w.heap[k]? :=World.grownBy.block h k a (λe=>b (by cases e;rfl))
def e7 (g:Nat)(w:O)(v:W)(l:List Nat):Prop:= ∀a,cd g w a->Ws a v l
theorem e7.ws (h:e7 g w v l):Ws w v l:=h w (cd.refl g w)
theorem e7.only (h:e7 g w v l)(k:cd g w ab):e7 g ab v l:=λw2 h2=>h w2 (k.trans h2)
theorem e7.hn {g base:Nat}{w:O}{v:W}{l:List Nat}(h:w.ownsRow base 186 1 v l.length (l.map wv))(a:E.Ok l)(e:g<base):e7 g w v l:=λab k=>by
 refine Ws.hn (base:=base) (h.kept k ?_) a;rcases h.2 with⟨rfl,_⟩|⟨b,c,d,rfl,hb,_⟩
 .exact .inl rfl
 .refine .inr ?_;show U b≠U g;simp;omega
theorem e7.open_ (h:e7 g w v l):∃a c,v=D a l.length c/\E.Ok l/\ ∀ab,cd g w ab->b2 ab a (l.map wv):=by
 obtain⟨a,c,rfl,_,_,b,_⟩:=h.ws;refine⟨a,c,rfl,b,λab k=> ?_⟩;obtain⟨f,i,e,_,_,_,d⟩:=h ab k;cases e;exact d
theorem cg.other (hb:cg w g l rest)(k:cd h w ab)(a:g≠h):cg ab g l rest:=(k.heap hb.lt a).trans hb
theorem cg.up (hb:cg w g l rest)(k:V w ab):cg ab g l rest:=(k.heap hb.lt).trans hb
instance cg.bW {w ab:O} {g:Nat} {l:List Nat} {rest:List W}:Lu (V w ab) (cg w g l rest) (cg ab g l rest):=bu λu h=>h.up u
theorem cg.drewN {w:O}{g:Nat}{l:List Nat}{rest:List W}(h:cg w g l rest)(n:Nat):cg (w.drewN n) g l rest:=h
def cv (w:O)(g:Nat)(pre:List W)(l:List Nat)(rest:List W):Prop:=w.heap[g]? =U (ao (pre++(l.map wv++rest)).toArray 186 (0,0))
theorem cg.mid (h:cg w g l rest):cv w g [] l rest:=h
theorem cv.lt (h:cv w g pre l rest):g<w.heap.size:=(Array.getElem?_eq_some_iff.1 h).1
theorem cv.dO (h:cv w g pre l rest)(b:pre.length=off)(a:i<l.length):w.cell? ⟨g,off+i,none⟩=U (H a7 ((l.getD i 0:Nat):Int)):=by
 subst b;rw[j4 l a,cell_of_row w g _ _ _ (0,0) h];simp only[List.getElem?_toArray];rw[List.getElem?_append_right (by omega),Nat.add_sub_cancel_left,List.getElem?_append_left (by simpa using a)];simp[wv,a]
theorem cv.free (h:cv w g pre l rest)(i:Nat):w.frozen? ⟨g,i,none⟩=false:=by
 unfold cv at h;simp[World.frozen?,h]
theorem cv.set {w:O}{g off:Nat}{pre:List W}{l:List Nat}{rest:List W}(h:cv w g pre l rest)(b:pre.length=off){i:Nat}(a:i<l.length)(x:Nat):cv (w.setCell ⟨g,off+i,none⟩ (H a7 (x:Int))) g pre (l.set i x) rest:=by
 subst b;unfold cv at h|-;simp only[ag,Array.getElem?_modify,h];simp[wv,List.map_set,List.set_append,a]
theorem cv.up (hb:cv w g pre l rest)(k:V w ab):cv ab g pre l rest:=(k.heap hb.lt).trans hb
instance cv.bW {w ab:O} {g:Nat} {pre:List W} {l:List Nat} {rest:List W}:Lu (V w ab) (cv w g pre l rest) (cv ab g pre l rest):=bu λu h=>h.up u
theorem cv.other (hb:cv w g pre l rest)(k:cd h w ab)(a:g≠h):cv ab g pre l rest:=(k.heap hb.lt a).trans hb
theorem cv.drew {w:O}{g:Nat}{pre:List W}{l:List Nat}{rest:List W}(h:cv w g pre l rest):cv w.drew g pre l rest:=h
theorem cv.drewN {w:O}{g:Nat}{pre:List W}{l:List Nat}{rest:List W}(h:cv w g pre l rest)(n:Nat):cv (w.drewN n) g pre l rest:=h
theorem cv.rd (h:cv w g pre l rest)(d:pre.length=off):b2 w (U ⟨g,off,none⟩) (l.map wv):=λ_=>by
 refine⟨g,off,rfl,h.lt,λj u a=> ?_⟩
 have c:j<(l.map wv).length:=by
  rcases Nat.lt_or_ge j (l.map wv).length with h|h
  .exact h
  .rw[List.getElem?_eq_none h]at a;cases a
 have b:j<l.length:=by simpa using c
 rw[h.dO d b,<-a,j4 l b];simp[wv,b]
theorem cv.ws (h:cv w g pre l rest)(e:pre.length=off)(d:E.Ok l)(a:l.length<=c)(b:c<=cm):Ws w (D (U ⟨g,off,none⟩) l.length c) l:=
 Ws.mk rfl a b d (h.rd e)
theorem cv.stays (h:cv w g pre l rest)(f:pre.length=off)(e:E.Ok l)(a:l.length<=c)(b:c<=cm)(d:g≠k):e7 k w (D (U ⟨g,off,none⟩) l.length c) l:=
 λab hw=>(h.other hw d).ws f e a b
theorem cv.cut (h:cv w g pre l rest)(n:Nat):cv w g pre (l.take n) ((l.drop n).map wv++rest):=by
 unfold cv at h|-;rw[h,<-List.append_assoc ((l.take n).map wv),<-List.map_append,List.take_append_drop]
def j7 (l m:List Nat)(b:Bool)(w:O)(e:aO)(a:O):Prop:= ∃d c,e=aw (aY #[d,c,J b])/\Ws a d l/\Ws a c m/\V w a
theorem ox {b:Bool}(c:Ws ab v l)(a:Ws ab u m)(h1:l=j8)(h2:m=j9)(d:V w ab):j7 j8 j9 b w (aw (aY #[v,u,J b])) ab:=⟨v,u,rfl,by rw[<-h1];exact c,by rw[<-h2];exact a,d⟩
def yX (l:List Nat)(x:Nat)(b:Bool)(w:O)(e:aO)(c:O):Prop:= ∃a,e=aw (aY #[a,H a7 (x:Int),J b])/\Ws c a l/\V w c
theorem yY (x:Nat)(ag:xi=x)(bx:x<E.B)(h0:0<x)(ha:Ws w v a)(av:a.length<=10000000000):
 aj ae 164 #[v,H a7 xi] w (yX (E.words (E.val a/x)) (E.val a%x) true w):=by
 subst ag;have d:Y (0<x):=G h0;have aw:((x:Int)==0)=false:=by simp;omega
 obtain⟨am,ao,rfl,ax,p3,F,ah⟩:=ha;have M:=G F;clear p3 F;go_enter func164,ntmps164;go_wp2_with(at_make;go_loud (refine iR rfl _ _ rfl a.length rfl rfl ?_ ?_ ?_))
 .omega
 .omega
 intro w1 e aa;have s:Y ((bA a.length 0).length=a.length):=G (by rw[List.length_replicate]);have t:=G (E.iK a.length);have p:=G (E.xt a d.out);generalize bA a.length 0=C at e s t p;go_wp2_with fail
 go_loopw[5,7] (λai j wr=> ∃(k r:Nat) (o:List Nat),ai=H a7 r/\j=H I ((k:Int)-1)/\k<=a.length/\r<x/\Y (o.length=a.length)/\Y (E.Ok o)/\bH wr w.heap.size o/\V w wr/\Y (E.jV a o x k r)) (λ_ j _=>(aI j+1).toNat)
 case atStart=>exact⟨a.length,0,C,rfl,rfl,a8 _,d.out,s,t,e,aa,p⟩
 case round=>
  obtain⟨k,r,o,rfl,rfl,m,g,b,q,c,i,f⟩:=hrel
  match k,m,f with
  |0,m,f=>
   have n:=G (E.xw f.out)
   have af:Ws wr (D (U ⟨w.heap.size,0,none⟩) a.length a.length) o:=by
    have:=c.ws q.out (by rw[b.out];unfold maxLen;omega);rw[b.out]at this;exact this
   have J:Y (o.length<=100000000000):=G (by rw[b.out];omega);go_wp2_with fail;refine(eI af J.out).mono ?_;intro N w3 Z;obtain⟨ak,rfl,y,P⟩:=Z.ws;rw[n.out.1]at y;have R:=i.trans P;go_wp2
   go_ret3
   exact⟨ak,by rw[n.out.2];rfl,y,R⟩
  |k+1,m,f=>
   have u:((k+1:Nat):Int)-1=k:=by omega
   rw[u];clear u;have z:k<a.length:=m;have A:=E.cW M.out k;have S:k<o.length:=by rw[b.out];omega
   have X:r<E.B:=Nat.lt_trans g bx;have K:=G (E.xv z f.out);have L:=G (E.eB q.out k (E.nZ A g));have T:=E.lE (h:=r) (l:=a.getD k 0) d.out;have ar:=c.dO S;have au:=c.free k;obtain⟨an,C,rfl,e,aq⟩:=ed (ah.up i) z;generalize a.getD k 0=al at*;generalize o.getD k 0=ay at*;go_wp2_with fail;refine(rp r al x rfl rfl rfl X A bx g _).mono ?_;rintro N w2 ⟨B,rfl,rfl⟩;have Q:=c.drewN B;have ab:=i.drewN B;go_wp2
   go_roundw
   case rel=>exact⟨k,_,_,rfl,rfl,by omega,T,G (by rw[List.length_set];exact b.out),L,Q.set _ _,ab.setCell (a8 _) _,K⟩
   case measure=>simp[aI]
def yZ (x:Nat)(w:O)(e:aO)(b:O):Prop:=e=aw (H a7 (x:Int))/\ ∃a,b=w.drewN a
theorem y3 {rP rQ rR rT rU:Int}(b d a0 a e:Nat)(am:rP=b)(al:rQ=d)(ak:rR=a0)(ao:rT=a)(an:rU=e)(X:b<E.B)(t:d<E.B)(W:a0<E.B)(f:a<E.B)(x:e<E.B)(az:b<=a)(ah:0<a):
 aj ae 191 #[H a7 rP,H a7 rQ,H a7 rR,H a7 rT,H a7 rU] w (yZ (E.eH b d a0 a e) w):=by
 subst am al ak ao an;have af:Y (E.B-1=4294967295):=G (by rw[E.bL]);have S:=G ah
 by_cases F:b=a/\E.B<=d+a
 .obtain⟨rfl,F⟩:=F;have l:=G (E.xA (a0:=a0) ah x F)
  have ag:E.dQ d b 0=1:=by
   have:=E.je t f (c:=0) (by omega);have k:=E.add_eq d b 0;have:=E.jd d b 0;rcases Nat.eq_zero_or_pos (E.dQ d b 0)with i|i
   .rw[i,Nat.mul_zero]at k;omega
   .omega
  have ai:=G ag;clear ag F;go_enter func191,ntmps191;go_wp2
  go_step3
  go_wp2_with fail;refine(rn b d b rfl rfl rfl X t f (a8 _) _).mono ?_;rintro j U ⟨rfl,rfl⟩;go_wp2_with fail;refine(gJ d b 0 rfl rfl rfl t f E.b0 _).mono ?_;rintro j U ⟨rfl,rfl⟩;rw[ai.out];go_wp2;rw[Exit.noGoto_ret];go_ret;exact⟨by rw[l.out,af.out];rfl,0,rfl⟩
 .obtain⟨J,K,R,aq⟩:∃J K,Y (E.g2 b d a0 a e J K)/\((b<a/\Y (J=E.ft b d a/\K=E.hr b d a))\/(a<=b/\Y (J=4294967295/\E.gC d a 0=K/\E.dQ d a 0=0))):=by
   rcases Nat.lt_or_ge b a with h|h
   .exact⟨_,_,G (E.xy h t f W),.inl ⟨h,G ⟨rfl,rfl⟩⟩⟩
   .have j:b=a:=by omega
    subst j
    have av:d+b<E.B:=by
     rcases Nat.lt_or_ge (d+b) E.B with h|h
     .exact h
     .exact absurd ⟨rfl,h⟩ F
    have k:=E.add_eq d b 0;have T:=E.je t f (c:=0) (by omega)
    have I:E.dQ d b 0=0:=by
     rcases Nat.eq_zero_or_pos (E.dQ d b 0)with i|i
     .exact i
     .have v:E.dQ d b 0=1:=by omega
      rw[v]at k;omega
    rw[I]at k;refine⟨E.B-1,d+b,G (E.xz av),.inr ⟨by omega,G ⟨af.out,by omega,I⟩⟩⟩
  clear F;rcases aq with⟨h,D⟩|⟨h,D⟩
  .go_enter func191,ntmps191;go_wp2
   go_step3
   go_wp2_with fail;refine(rp b d a rfl rfl rfl X t f h _).mono ?_;rintro j U ⟨aa,rfl,rfl⟩;rw[<-D.out.1,<-D.out.2];go_wp2
   go_step3
   go_wp2;have aw:=R.out.1
   go_loop [11,12] (λC ab=> ∃(q r:Nat),C=H a7 q/\ab=H a7 r/\Y (E.g2 b d a0 a e q r)) (λC _=>(aI C).toNat)
   case atStart=>exact⟨J,K,rfl,rfl,R⟩
   case round=>
    obtain⟨q,r,rfl,rfl,g⟩:=hrel;have z:=g.out.1;have ax:q<4294967296:=by rw[<-E.bL];exact z
    have A:=g.out.2.1;have u:=G (E.ra (r:=r) (a0:=a0) (E.mul_eq q e 0 0) (E.iL q e 0 0) W);have ar:=E.lD z x E.b0 E.b0;have au:=E.iL q e 0 0;go_wp2_with fail;refine(lQ q e 0 0 rfl rfl rfl rfl z x E.b0 E.b0 _).mono ?_;rintro j w2 ⟨rfl,rfl⟩;generalize E.gD q e 0 0=p at*;generalize E.mulL q e 0 0=Q at*
    by_cases s:p<r\/p=r/\Q<=a0
    .have l:=G (E.q7 S.out g.out (by have:=u.out.2 s;omega));rcases s with m|⟨rfl,m⟩
     .go_wp2;rw[Exit.noGoto_ret];go_ret;exact⟨by rw[<-l.out];rfl,aa,rfl⟩
     .go_wp2;rw[Exit.noGoto_ret];go_ret;exact⟨by rw[<-l.out];rfl,aa,rfl⟩
    .have y:r*E.B+a0<q*e:=by
      rcases Nat.lt_or_ge (r*E.B+a0) (q*e)with h|h
      .exact h
      .exact absurd (u.out.1 (by omega)) s
     have L:=G y;have N:=(E.lL g.out y).1;have M:r<p\/p=r/\a0<Q:=by omega
     have k:=E.add_eq r a 0;have T:=E.je A f (c:=0) (by omega);have I:=E.jd r a 0
     have Z:(r+a<E.B/\E.gC r a 0=r+a/\E.dQ r a 0=0)\/(E.B<=r+a/\E.dQ r a 0=1):=by
      rcases Nat.eq_zero_or_pos (E.dQ r a 0)with i|i
      .rw[i,Nat.mul_zero]at k;exact .inl ⟨by omega,by omega,i⟩
      .have v:E.dQ r a 0=1:=by omega
       rw[v]at k;exact .inr ⟨by omega,v⟩
     clear k T I y s u;rcases Z with⟨B,P,n⟩|⟨B,n⟩
     .have V:=G (E.q8 g.out L.out B);have o:=G (And.intro P n);clear P n;rcases M with m|⟨rfl,m⟩
      all_goals
       go_wp2_with fail;refine(gJ _ a 0 rfl rfl rfl A f E.b0 _).mono ?_;rintro j w2 ⟨rfl,rfl⟩;rw[o.out.1,o.out.2];go_wp2
       go_round
       case rel=>exact⟨q-1,_,by rw[Int.natCast_sub N];rfl,rfl,V⟩
       case measure=>simp[aI];omega
     .have l:=G (E.q9 S.out x g.out L.out B);have o:=G n;clear n;rcases M with m|⟨rfl,m⟩
      all_goals
       go_wp2_with fail;refine(gJ _ a 0 rfl rfl rfl A f E.b0 _).mono ?_;rintro j w2 ⟨rfl,rfl⟩;rw[o.out];go_wp2;rw[Exit.noGoto_ret];go_ret;exact⟨by rw[<-l.out,Int.natCast_sub N];rfl,aa,rfl⟩
  .have ay:decide (a<b)=false:=by simp;omega
   go_enter func191,ntmps191;go_wp2
   go_step3
   go_wp2_with fail;refine(rn b d a rfl rfl rfl X t f h _).mono ?_;rintro j U ⟨rfl,rfl⟩;go_wp2_with fail;refine(gJ d a 0 rfl rfl rfl t f E.b0 _).mono ?_;rintro j U ⟨rfl,rfl⟩;rw[D.out.2.1,D.out.2.2];go_wp2
   go_step3
   go_wp2;have aw:=R.out.1
   go_loop [11,12] (λC ab=> ∃(q r:Nat),C=H a7 q/\ab=H a7 r/\Y (E.g2 b d a0 a e q r)) (λC _=>(aI C).toNat)
   case atStart=>exact⟨J,K,by rw[D.out.1];rfl,rfl,R⟩
   case round=>
    obtain⟨q,r,rfl,rfl,g⟩:=hrel;have z:=g.out.1;have ax:q<4294967296:=by rw[<-E.bL];exact z
    have A:=g.out.2.1;have u:=G (E.ra (r:=r) (a0:=a0) (E.mul_eq q e 0 0) (E.iL q e 0 0) W);have ar:=E.lD z x E.b0 E.b0;have au:=E.iL q e 0 0;go_wp2_with fail;refine(lQ q e 0 0 rfl rfl rfl rfl z x E.b0 E.b0 _).mono ?_;rintro j w2 ⟨rfl,rfl⟩;generalize E.gD q e 0 0=p at*;generalize E.mulL q e 0 0=Q at*
    by_cases s:p<r\/p=r/\Q<=a0
    .have l:=G (E.q7 S.out g.out (by have:=u.out.2 s;omega));rcases s with m|⟨rfl,m⟩
     .go_wp2;rw[Exit.noGoto_ret];go_ret;exact⟨by rw[<-l.out];rfl,0,rfl⟩
     .go_wp2;rw[Exit.noGoto_ret];go_ret;exact⟨by rw[<-l.out];rfl,0,rfl⟩
    .have y:r*E.B+a0<q*e:=by
      rcases Nat.lt_or_ge (r*E.B+a0) (q*e)with h|h
      .exact h
      .exact absurd (u.out.1 (by omega)) s
     have L:=G y;have N:=(E.lL g.out y).1;have M:r<p\/p=r/\a0<Q:=by omega
     have k:=E.add_eq r a 0;have T:=E.je A f (c:=0) (by omega);have I:=E.jd r a 0
     have Z:(r+a<E.B/\E.gC r a 0=r+a/\E.dQ r a 0=0)\/(E.B<=r+a/\E.dQ r a 0=1):=by
      rcases Nat.eq_zero_or_pos (E.dQ r a 0)with i|i
      .rw[i,Nat.mul_zero]at k;exact .inl ⟨by omega,by omega,i⟩
      .have v:E.dQ r a 0=1:=by omega
       rw[v]at k;exact .inr ⟨by omega,v⟩
     clear k T I y s u;rcases Z with⟨B,P,n⟩|⟨B,n⟩
     .have V:=G (E.q8 g.out L.out B);have o:=G (And.intro P n);clear P n;rcases M with m|⟨rfl,m⟩
      all_goals
       go_wp2_with fail;refine(gJ _ a 0 rfl rfl rfl A f E.b0 _).mono ?_;rintro j w2 ⟨rfl,rfl⟩;rw[o.out.1,o.out.2];go_wp2
       go_round
       case rel=>exact⟨q-1,_,by rw[Int.natCast_sub N];rfl,rfl,V⟩
       case measure=>simp[aI];omega
     .have l:=G (E.q9 S.out x g.out L.out B);have o:=G n;clear n;rcases M with m|⟨rfl,m⟩
      all_goals
       go_wp2_with fail;refine(gJ _ a 0 rfl rfl rfl A f E.b0 _).mono ?_;rintro j w2 ⟨rfl,rfl⟩;rw[o.out];go_wp2;rw[Exit.noGoto_ret];go_ret;exact⟨by rw[<-l.out,Int.natCast_sub N];rfl,0,rfl⟩
def oy (g:Nat)(rest:List W)(a b:List Nat)(x k d:Nat)(w c:O):Prop:=
 ∃o,cg c g o rest/\E.Ok o/\o.length=a.length/\E.val o+E.B^k*(x*E.val b)=E.val a+E.B^(k+b.length+1)*d/\o.drop (k+b.length+1)=a.drop (k+b.length+1)/\cd g w c
def y4 (g:Nat)(rest:List W)(a b:List Nat)(x k:Nat)(w:O)(e:aO)(c:O):Prop:=
 (e=aw (J false)/\oy g rest a b x k 0 w c)\/(e=aw (J true)/\oy g rest a b x k 1 w c)
theorem y5 (k x:Nat)(ag:ki=k)(al:xi=x)(bx:x<E.B)(Z:a.length=N)(hb:cg w g a rest)(K:E.Ok a)(M:e7 g w u b)(ai:k+b.length<a.length)(aw:a.length<=100000000000):
 aj ae 192 #[D (U ⟨g,0,none⟩) N c,H I ki,u,H a7 xi] w (y4 g rest a b x k w):=by
 subst ag al Z;obtain⟨aq,au,rfl,Q,L⟩:=M.open_;have X:=G Q;have T:=G K;have V:=G L;clear Q K L M;have az:k<a.length:=by omega
 go_enter func192,ntmps192;go_wp2
 go_loopw[9,10,17] (λao an z wr=> ∃(d cy e:Nat) (p:List Nat),ao=H a7 cy/\an=H a7 e/\z=H I d/\d<=b.length/\Y (E.Ok p)/\cg wr g p rest/\cd g w wr/\Y (E.jW b a p x k d cy e)) (λ_ _ z _=>b.length-(aI z).toNat)
 case atStart=>exact⟨0,0,0,a,rfl,rfl,rfl,bn _,T,hb,cd.refl _ _,G (E.xC b a x k)⟩
 case round=>
  obtain⟨d,cy,e,p,rfl,rfl,rfl,ay,q,i,y,f⟩:=hrel;have v:=f.out.1;have s:=f.out.2.1
  by_cases ak:d<b.length
  .have P:=E.cW X.out d;have o:=E.cW q.out (k+d);have n:k+d<p.length:=by rw[f.out.2.2.1];omega
   have ah:k+d<a.length:=by omega
   have S:=G (E.xF ah bx P f.out);have J:=E.iL x (b.getD d 0) cy 0;have r:=G (E.eB q.out (k+d) (E.nX o J (Nat.lt_of_le_of_lt s E.fM)));have aa:=i.dO n;have ab:=i.free (k+d);obtain⟨ar,aA,rfl,av,ax⟩:=ed (V.out wr y) ak;generalize b.getD d 0=R at*;generalize p.getD (k+d) 0=l at*;go_wp2_with fail;refine(lQ x R cy 0 rfl rfl rfl rfl bx P v E.b0 _).mono ?_;rintro B w2 ⟨rfl,rfl⟩;generalize E.mulL x R cy 0=am at*;go_wp2_with fail;refine(lP l am e rfl rfl rfl o J (Nat.lt_of_le_of_lt s E.fM) _).mono ?_;rintro B w2 ⟨rfl,rfl⟩;go_wp2
   go_roundw
   case rel=>exact⟨d+1,_,_,_,rfl,rfl,by go_num,by omega,r,i.set n _,y.set _ _,S⟩
   case measure=>simp[aI];omega
  .obtain rfl:d=b.length:=by omega
   have o:=E.cW q.out (k+b.length);have n:k+b.length<p.length:=by rw[f.out.2.2.1];omega
   have m:=G (E.xH ai f.out);have r:=G (E.eB q.out (k+b.length) (E.nX o v (Nat.lt_of_le_of_lt s E.fM)));have aa:=i.dO n;have ab:=i.free (k+b.length);generalize p.getD (k+b.length) 0=l at*;go_wp2_with fail;refine(lP l cy e rfl rfl rfl o v (Nat.lt_of_le_of_lt s E.fM) _).mono ?_;rintro B w2 ⟨rfl,rfl⟩
   have C:∀j,E.fq l cy e=j->oy g rest a b x k j w (wr.setCell ⟨g,k+b.length,none⟩ (H a7 ((E.fN l cy e:Nat):Int))):=λj F=>
    ⟨_,i.set n _,r.out,m.out.2.2.1,by rw[<-F];exact m.out.1,m.out.2.1,y.set _ _⟩
   have A:=G C;have F:=m.out.2.2.2;clear C m r f;generalize E.fq l cy e=j at*;have af:j=0\/j=1:=by omega
   rcases af with rfl|rfl
   .have t:=G (A.out 0 rfl);go_wp2;go_ret;exact .inl ⟨rfl,t.out⟩
   .have t:=G (A.out 1 rfl);go_wp2;go_ret;exact .inr ⟨rfl,t.out⟩
def y6 (g:Nat)(rest:List W)(a b:List Nat)(k:Nat)(w:O)(e:aO)(d:O):Prop:=
 e=aw (aY #[])/\ ∃(o:List Nat) (c:Nat),c<=1/\cg d g o rest/\E.Ok o/\o.length=a.length/\E.val o+E.B^(k+b.length+1)*c=E.val a+E.B^k*E.val b/\o.drop (k+b.length+1)=a.drop (k+b.length+1)/\cd g w d
theorem y7 (k:Nat)(Q:ki=k)(K:a.length=N)(hb:cg w g a rest)(r:E.Ok a)(t:e7 g w u b)(S:k+b.length<a.length)(ah:a.length<=100000000000):
 aj ae 193 #[D (U ⟨g,0,none⟩) N c,H I ki,u] w (y6 g rest a b k w):=by
 subst Q K;obtain⟨Z,ab,rfl,z,s⟩:=t.open_;have J:=G z;have B:=G r;have C:=G s;clear z r s t;have al:k<a.length:=by omega
 go_enter func193,ntmps193;go_wp2
 go_loopw[6,11] (λV q wr=> ∃(d cy:Nat) (p:List Nat),V=H a7 cy/\q=H I d/\d<=b.length/\Y (E.Ok p)/\cg wr g p rest/\cd g w wr/\Y (E.jX b a p k d cy)) (λ_ q _=>b.length-(aI q).toNat)
 case atStart=>exact⟨0,0,a,rfl,rfl,bn _,B,hb,cd.refl _ _,G (E.xI b a k)⟩
 case round=>
  obtain⟨d,cy,p,rfl,rfl,ak,e,f,o,i⟩:=hrel;have M:=i.out.1
  by_cases T:d<b.length
  .have v:=E.cW J.out d;have y:=E.cW e.out (k+d);have j:k+d<p.length:=by rw[i.out.2.1];omega
   have R:k+d<a.length:=by omega
   have A:=G (E.xL R e.out v i.out);have n:=G (E.eB e.out (k+d) (E.jd (p.getD (k+d) 0) (b.getD d 0) cy));have L:=f.dO j;have P:=f.free (k+d);obtain⟨aa,am,rfl,ag,ai⟩:=ed (C.out wr o) T;generalize b.getD d 0=X at*;generalize p.getD (k+d) 0=m at*;go_wp2_with fail;refine(gJ m X cy rfl rfl rfl y v (Nat.lt_of_le_of_lt M E.fM) _).mono ?_;rintro af w2 ⟨rfl,rfl⟩;go_wp2
   go_roundw
   case rel=>exact⟨d+1,_,_,rfl,by go_num,by omega,n,f.set j _,o.set _ _,A⟩
   case measure=>simp[aI];omega
  .obtain rfl:d=b.length:=by omega
   have y:=E.cW e.out (k+b.length);have j:k+b.length<p.length:=by rw[i.out.2.1];omega
   have l:=G (E.xN S e.out i.out);have n:=G (E.eB e.out (k+b.length) (x:=(p.getD (k+b.length) 0+cy)%E.B) (Nat.mod_lt _ E.b0));have L:=f.dO j;have P:=f.free (k+b.length);generalize p.getD (k+b.length) 0=m at*;have F:Y (((m:Int)+(cy:Int))%4294967296=(((m+cy)%E.B:Nat):Int)):=G (by rw[E.bL];omega);go_wp2
   go_end0
   rw[F.out];exact⟨rfl,_,_,l.out.2.2.2,f.set j _,n.out,l.out.2.2.1,l.out.1,l.out.2.1,o.set _ _⟩
theorem y8 (f:E.Ok o)(hb:E.Ok b)(e:b.length=L)(j:2<=L)(d:i+L<o.length)(g:b.getD (L-1) 0≠0)(h:E.gH a b o q (i+1)):
 E.val (o.drop (i+L+1))=0/\o.getD (i+L) 0<=b.getD (L-1) 0
 /\E.val o/E.B^i/E.val b<=E.eH (o.getD (i+L) 0) (o.getD (i+L-1) 0) (o.getD (i+L-2) 0) (b.getD (L-1) 0) (b.getD (L-2) 0)
 /\E.eH (o.getD (i+L) 0) (o.getD (i+L-1) 0) (o.getD (i+L-2) 0) (b.getD (L-1) 0) (b.getD (L-2) 0)<=E.val o/E.B^i/E.val b+1:=by
 obtain⟨c,rfl⟩:∃c,L=c+2:=⟨L-2,by omega⟩;have:=E.xR f hb e d g h;exact this
theorem y9 (d:i<q.length)(c:0<E.val b)(h:E.gH a b o q (i+1))(e:E.val o/E.B^i/E.val b<=x)(h1:E.val p+E.B^i*(x*E.val b)=E.val o+E.B^L*0):E.gH a b p (q.set i x) i:=by
 rw[Nat.mul_zero,Nat.add_zero]at h1;exact E.rb d h h1 (E.xS (Nat.pow_pos E.b0) c e h1)
theorem za {r:List Nat}{j:Nat}(m:i<q.length)(l:0<E.val b)(h:E.gH a b o q (i+1))(c:E.val (o.drop L)=0)(u:x<=E.val o/E.B^i/E.val b+1)(v:E.Ok p)(y:E.Ok r)
 (h1:E.val p+E.B^i*(x*E.val b)=E.val o+E.B^L*1)(h2:p.drop L=o.drop L)(n:j<=1)(g:E.val r+E.B^L*j=E.val p+E.B^i*E.val b)(k:r.drop L=p.drop L):1<=x/\E.gH a b r (q.set i (x-1)) i:=by
 rw[Nat.mul_one]at h1;have s:E.val p<E.B^L:=E.ob v (by rw[h2];exact c);have t:E.val r<E.B^L:=E.ob y (by rw[k,h2];exact c);obtain⟨d,e,f⟩:=E.xT (Nat.pow_pos E.b0) l u h1 s n g t;exact⟨d,E.rb m h e f⟩
theorem bH.other (hb:bH w g l)(k:cd h w ab)(a:g≠h):bH ab g l:=(k.heap hb.lt a).trans hb
def zb (g:Nat)(rest:List W)(a b:List Nat)(w:O)(e:aO)(c:O):Prop:=
 ∃(d:W) (q r:List Nat),e=aw d/\Ws c d q/\q.length<=a.length/\cg c g r rest/\E.Ok r/\r.length=a.length/\E.val q=E.val a/E.val b/\E.val r=E.val a%E.val b/\cd g w c
theorem zc {m:Nat}(ao:b.length=L)(bp:2<=L)(bI:a.length=m+L)(aP:a.length=N)(br:N<=100000000000)(hb:cg w g a rest)(aZ:E.Ok a)(ay:e7 g w u b)(a3:b.getD (L-1) 0≠0)(av:E.val a<E.B^m*E.val b):
 aj ae 167 #[D (U ⟨g,0,none⟩) N c,u] w (zb g rest a b w):=by
 have aR:0<E.val b:=by
  rcases Nat.eq_zero_or_pos (E.val b)with h|h
  .rw[h,Nat.mul_zero]at av;omega
  .exact h
 have ag:=G ay;have b9:=hb.lt;have aY:N=m+L:=by omega
 obtain⟨b4,b6,rfl,a6,a1⟩:=ay.open_;have ah:=G a6;have bb:=G aZ;have aH:=G a1;have aK:=G aR;have aJ:=G a3;have T:=G aP;have v:=G ao;have a7:=G av;rw[ao]at ag|-;have bq:m<=N:=by omega
 have b7:L<=N:=by omega
 have a9:Y ((N:Int)-(L:Int)=(m:Int)):=G (by omega);have ba:=G aY;have ca:m<=100000000000:=by omega
 clear a6 aZ a1 ay aR a3 aP ao av bI aY;go_enter func167,ntmps167;go_wp2_with(at_make;go_loud (refine iR rfl _ _ rfl m rfl rfl a9.out ?_ ?_))
 .omega
 intro w1 aq a4;have aL:Y ((bA m 0).length=m):=G (by rw[List.length_replicate]);have aN:=G (E.iK m);have aF:=G (E.xO a7.out);generalize bA m 0=a5 at aq aL aN aF;have bu:=hb.up a4;have t:=cd.GK (g:=g) a4;have y:Y (w.heap.size≠g):=G (by omega);go_wp2_with fail
 go_loopw[7,8] (λaD ch wr=> ∃(k:Nat) (o q:List Nat),aD=H I ((k:Int)-1)/\k<=m/\Y (o.length=N)/\Y (E.Ok o)/\cg wr g o rest/\Y (q.length=m)/\Y (E.Ok q)/\bH wr w.heap.size q/\cd g w wr/\Y (E.gH a b o q k)) (λaD _ _=>(aI aD+1).toNat)
 case atStart=>exact⟨m,a,a5,rfl,a8 _,T,bb,bu,aL,aN,aq,t,aF⟩
 case round=>
  obtain⟨k,o,q,rfl,X,l,n,A,s,ab,aS,t,f⟩:=hrel
  match k,X,f with
  |0,X,f=>
   have aE:=G (E.xQ f.out)
   have bN:Ws wr (D (U ⟨w.heap.size,0,none⟩) m m) q:=by
    have:=aS.ws ab.out (by rw[s.out];unfold maxLen;omega);rw[s.out]at this;exact this
   go_wp2;go_ret;exact⟨_,q,o,rfl,bN,by rw[s.out,T.out];exact bq,A,n.out,by rw[l.out,T.out],aE.out.1,aE.out.2,t⟩
  |k+1,X,f=>
   have aO:((k+1:Nat):Int)-1=k:=by omega
   rw[aO];clear aO;have bF:k<m:=X;have bE:k+L<N:=by have:=ba.out;omega
   have au:k+L<o.length:=by rw[l.out];exact bE
   have K:=G (y8 n.out ah.out v.out bp au aJ.out f.out);have bo:=E.cW n.out (k+L);have bn:=E.cW n.out (k+L-1);have bm:=E.cW n.out (k+L-2);have bP:=E.cW ah.out (L-1);have bO:=E.cW ah.out (L-2);have bC:=A.dO (i:=k+L) au;have bB:=A.dO (i:=k+L-1) (by omega);have bz:=A.dO (i:=k+L-2) (by omega);obtain⟨Q,a5,rfl,aq,bw⟩:=ed (aH.out wr t) (k:=L-1) (by rw[v.out];omega);obtain⟨b5,cf,R,b8,bv⟩:=ed (aH.out wr t) (k:=L-2) (by rw[v.out];omega);simp at R;obtain⟨rfl,rfl⟩:=R;have bG:=K.out.2.1;have bM:0<b.getD (L-1) 0:=Nat.pos_of_ne_zero aJ.out;have Z:=G (And.intro K.out.1 K.out.2.2);clear K;generalize o.getD (k+L) 0=al at*;generalize o.getD (k+L-1) 0=ak at*;generalize o.getD (k+L-2) 0=ai at*;generalize b.getD (L-1) 0=Q at*;generalize b.getD (L-2) 0=am at*;go_wp2;have bh:IntKind.i64.wrap ((k:Int)+(L:Int))=(k:Int)+(L:Int):=by rw[IntKind.wrap_i64];omega
   have R:IntKind.i64.wrap ((k:Int)+(L:Int)-1)=(k:Int)+(L:Int)-1:=by rw[IntKind.wrap_i64];omega
   have bi:IntKind.i64.wrap ((k:Int)+(L:Int)-2)=(k:Int)+(L:Int)-2:=by rw[IntKind.wrap_i64];omega
   have bj:IntKind.i64.wrap ((L:Int)-1)=(L:Int)-1:=by rw[IntKind.wrap_i64];omega
   have bk:IntKind.i64.wrap ((L:Int)-2)=(L:Int)-2:=by rw[IntKind.wrap_i64];omega
   have bQ:((k:Int)+(L:Int)).toNat=k+L:=by omega
   have bR:((k:Int)+(L:Int)-1).toNat=k+L-1:=by omega
   have bS:((k:Int)+(L:Int)-2).toNat=k+L-2:=by omega
   have bT:((L:Int)-1).toNat=L-1:=by omega
   have bU:((L:Int)-2).toNat=L-2:=by omega
   have bV:(0:Int)<=(k:Int)+(L:Int):=by omega
   have bW:(0:Int)<=(k:Int)+(L:Int)-1:=by omega
   have p3:(0:Int)<=(k:Int)+(L:Int)-2:=by omega
   have bX:(0:Int)<=(L:Int)-1:=by omega
   have bY:(0:Int)<=(L:Int)-2:=by omega
   have q1:(k:Int)+(L:Int)<(N:Int):=by omega
   have bZ:(k:Int)+(L:Int)-1<(N:Int):=by omega
   have b0:(k:Int)+(L:Int)-2<(N:Int):=by omega
   have b1:(L:Int)-1<(L:Int):=by omega
   have b2:(L:Int)-2<(L:Int):=by omega
   go_quiet ((go_at_call 191;exact Calls.quiet_of (y3 al ak ai Q am rfl rfl rfl rfl rfl bo bn bm bP bO bG bM)))
   clear bh R bi bj bk bQ bR bS bT bU bV bW p3 bX bY q1 bZ b0 b1 b2 bC bB bz bw bv;have aA:=E.xx al ak ai Q am;generalize E.eH al ak ai Q am=x at*;have aw:=t.drewN nq;have bs:=A.drewN nq;have aT:=aS.drewN nq;generalize wr.drewN nq=w2 at*;have az:=ag.out.only aw;have S:k+b.length<o.length:=by rw[v.out];exact au
   have M:Y (k<q.length):=G (by rw[s.out];exact bF);have aQ:o.length<=100000000000:=by rw[l.out];exact br
   go_wp2_with fail;refine(y5 k x rfl rfl aA l.out bs n.out az S aQ).mono ?_;intro an w3 bK;rcases bK with⟨rfl,p,ar,J,j,d,e,F⟩|⟨rfl,p,ar,J,j,d,e,F⟩
   .have V:=G (y9 M.out aK.out f.out Z.out.2.1 d);have B:=aT.other F y.out;have g3:=aw.trans F;have z:=G J;have bd:Y (p.length=N):=G (by rw[j];exact l.out);have af:=G (E.eB ab.out k aA);have aa:Y ((q.set k x).length=m):=G (by rw[List.length_set];exact s.out);have bx:=B.dO M.out;have bD:=B.free k;have C:=B.set k x;clear j d e J az S;generalize q.getD k 0=b3 at*;go_wp2
    go_roundw
    case rel=>exact⟨k,p,_,rfl,by omega,bd,z,ar.other ((cd.refl _ _).set _ _) (Ne.symm y.out),aa,af,C,g3.wj (a8 _) _ _,V⟩
    case measure=>simp[aI]
   .have g3:=aw.trans F;have bL:=ag.out.only g3;have B:=aT.other F y.out;have aX:k+b.length<p.length:=by rw[j];exact S
    have bJ:p.length<=100000000000:=by rw[j];exact aQ
    have aG:Y (p.length=N):=G (by rw[j];exact l.out);have P:=G (And.intro d e);have z:=G J;have aB:=Z.out.1;rw[<-v.out]at aB;have aM:=G aB
    have cb:1<=x:=by
     rcases Nat.eq_zero_or_pos x with h|h
     .exfalso;have an:=P.out.1;rw[h,Nat.zero_mul,Nat.mul_zero,Nat.add_zero,Nat.mul_one]at an;have:=E.ob z.out (k:=k+b.length+1) (by rw[P.out.2];exact aM.out);omega
     .exact h
    have cc:x<4294967296:=by rw[<-E.bL];exact aA
    clear j d e J az S aB;go_wp2_with fail;refine(y7 k rfl aG.out ar z.out bL aX bJ).mono ?_;rintro an w4 ⟨rfl,r,ce,aW,bt,aC,a2,d,e,ax⟩;have V:=G (za M.out aK.out f.out aM.out Z.out.2.2 z.out aC P.out.1 P.out.2 aW d e).2;have bl:=g3.trans ax;have C:=B.other ax y.out;have bf:=G aC;have bg:Y (r.length=N):=G (by rw[a2];exact aG.out);have af:=G (E.eB ab.out k (x:=x-1) (by omega));have aa:Y ((q.set k (x-1)).length=m):=G (by rw[List.length_set];exact s.out);have bx:=C.dO M.out;have bD:=C.free k;have aU:=C.set k (x-1);have aV:((x-1:Nat):Int)=(x:Int)-1:=by omega
    rw[aV]at aU;clear a2 d e aC aX aW aV ax;generalize q.getD k 0=b3 at*;go_wp2
    go_roundw
    case rel=>exact⟨k,r,_,rfl,by omega,bg,bf,bt.other ((cd.refl _ _).set _ _) (Ne.symm y.out),aa,af,aU,bl.wj (a8 _) _ _,V⟩
    case measure=>simp[aI]
theorem zd (ha:Ws w v a)(hb:Ws w u b)(y:a.length<=1000000000)(n:b.length<=1000000000)(h0:E.val a<E.val b):
 aj ae 134 #[v,u] w (j7 (E.words (E.val a/E.val b)) (E.words (E.val a%E.val b)) true w):=by
 have c:Y (E.val a/E.val b=0/\E.val a%E.val b=E.val a):=G ⟨Nat.div_eq_of_lt h0,Nat.mod_eq_of_lt h0⟩;have i:=G (E.jf h0)
 have z:1<=(E.words (E.val b)).length:=by
  rcases Nat.eq_zero_or_pos (E.words (E.val b)).length with h|h
  .have:=E.hq.1 h;omega
  .exact h
 have A:=fv hb.ok n;have k:=G (E.bl (E.val b));obtain⟨r,t,rfl⟩:=ha.form;clear h0;go_enter func134,ntmps134;go_wp2_with fail;refine(eI hb (by omega)).mono ?_;intro d w1 o;obtain⟨B,rfl,g,u1⟩:=o.ws;obtain⟨ai,x,rfl⟩:=g.form;have f:=ha.up u1;generalize e:(E.words (E.val b)).length=s at*;have j:=G e;clear e;go_wp2_with fail;refine(ou f g (by omega) (by rw[j.out];omega)).mono ?_;rintro d w2 ⟨rfl,u2⟩;rw[k.out,i.out];have m:=f.up u2;have l:=u1.trans u2;go_wp2_with fail;refine(eI m (by omega)).mono ?_;intro d w3 p;obtain⟨C,rfl,q,u3⟩:=p.ws;have g3:=l.trans u3;go_wp2
 go_ret3
 exact ox (Ws.nil _) q (by rw[c.out.1,E.en]) (by rw[c.out.2]) g3
theorem ze (ha:Ws w v a)(hb:Ws w u b)(X:a.length<=1000000000)(Z:b.length<=1000000000)(h0:E.val b<=E.val a)(h1:(E.words (E.val b)).length=1):
 aj ae 134 #[v,u] w (j7 (E.words (E.val a/E.val b)) (E.words (E.val a%E.val b)) true w):=by
 have f:Y (E.dk (E.val a) (E.val b)=0\/E.dk (E.val a) (E.val b)=1):=G (by
  rcases E.lI (E.val a) (E.val b)with h|h|h
  .omega
  .exact .inl h.2
  .exact .inr h.2)
 have m:=G (E.bl (E.val b));have i:=E.gB (E.val b);obtain⟨c,d⟩:∃c,E.words (E.val b)=[c]:=List.length_eq_one_iff.1 h1
 have e:E.val b=c:=by
  have:=m.out;rw[d]at this
  simpa[E.val]using this.symm
 have bx:c<E.B:=by
  rw[d]at i;exact(E.g0.1 i).1
 have q:0<c:=by
  rcases Nat.eq_zero_or_pos c with h|h
  .rw[e,h,E.en]at d;cases d
  .exact h
 obtain⟨N,R,rfl⟩:=ha.form;rw[e]at f|-;have t:=G d;have Q:=G e;have s:=G bx;have J:c<4294967296:=by rw[<-E.bL];exact bx
 have aa:E.val a%c<4294967296:=Nat.lt_trans (Nat.mod_lt _ q) J;clear h0 h1 m i d e bx;go_enter func134,ntmps134;go_wp2_with fail;refine(eI hb (by omega)).mono ?_;intro g w1 I;obtain⟨ab,rfl,j,u1⟩:=I.ws;rw[t.out]at j;have L:=j;obtain⟨ai,S,rfl,_,_,_,F⟩:=j;have n:=ha.up u1;go_wp2_with fail;refine(ou n L (by omega) (by simp)).mono ?_;rintro g w2 ⟨rfl,u2⟩;rw[show E.val [c]=c from by simp[E.val]];have B:=n.up u2;have z:=u1.trans u2;obtain⟨x,K,rfl,T,o⟩:=ed (F.up u2) (k:=0) (by simp);have o:w2.cell? ⟨x,K,none⟩=U (H a7 (c:Int)):=o;have C:=f.out;generalize E.dk (E.val a) c=y at*;clear f;have V:¬y<0:=by omega
 clear C;go_wp2_with fail;refine(yY c rfl s.out q B (by omega)).mono ?_;rintro g w3 ⟨af,rfl,l,u3⟩;have g3:=z.trans u3;generalize p:E.val a%c=r at*;have P:=G p;clear p;go_wp2_with fail;refine(h7 r rfl (by omega) _).mono ?_;rintro g w4 ⟨ag,rfl,M,u4⟩;have l:=l.up u4;have A:=g3.trans u4;go_wp2
 go_ret3
 exact ox l M rfl rfl A
theorem zf (ha:Ws w v a)(hb:Ws w u b)(bo:a.length<=1000000000)(aU:b.length<=1000000000)(h0:E.val b<=E.val a)(h1:2<=(E.words (E.val b)).length):
 aj ae 134 #[v,u] w (j7 (E.words (E.val a/E.val b)) (E.words (E.val a%E.val b)) true w):=by
 have C:Y (E.dk (E.val a) (E.val b)=0\/E.dk (E.val a) (E.val b)=1):=G (by
  rcases E.lI (E.val a) (E.val b)with h|h|h
  .omega
  .exact .inl h.2
  .exact .inr h.2)
 have aC:=G (E.bl (E.val b));have T:=E.gB (E.val b);have bp:=fv hb.ok aU;have P:=E.cW T ((E.words (E.val b)).length-1)
 have bm:E.bD ((E.words (E.val b)).getD ((E.words (E.val b)).length-1) 0)<=32:=by
  rw[E.lG,<-E.lB];exact P
 have ak:=G h0;obtain⟨ba,bf,rfl⟩:=ha.form;clear h0;go_enter func134,ntmps134;go_wp2_with fail;refine(eI hb (by omega)).mono ?_;intro f w1 aY;obtain⟨br,rfl,V,u1⟩:=aY.ws;have X:=V;obtain⟨ai,bh,rfl,_,_,_,aX⟩:=V;have M:=ha.up u1;go_wp2_with fail;refine(ou M X (by omega) (by omega)).mono ?_;rintro f w2 ⟨rfl,u2⟩;rw[aC.out];have aM:=M.up u2;have aF:=u1.trans u2;have a5:=X.up u2;obtain⟨bd,bq,rfl,bl,aR⟩:=ed (aX.up u2) (k:=(E.words (E.val b)).length-1) (by omega);have ag:Y (∃a9,a9=E.words (E.val b)):=G ⟨_,rfl⟩;have aS:=C.out;generalize E.dk (E.val a) (E.val b)=aE at*;have bn:¬aE<0:=by omega
 clear aS C;generalize(E.words (E.val b)).getD ((E.words (E.val b)).length-1) 0=g at*;generalize L:(E.words (E.val b)).length=aD at*;have F:=G L;clear L;go_wp2_with fail;refine(rq g rfl P _).mono ?_;rintro f w3 ⟨rfl,rfl⟩;have z:=rH (E.qX ha.ok) (Nat.min_le_right (32-(E.bD g:Int)).toNat 4096);have y:=rH (E.qX hb.ok) (Nat.min_le_right (32-(E.bD g:Int)).toNat 4096);have R:min (32-(E.bD g:Int)).toNat 4096=(32-(E.bD g:Int)).toNat:=Nat.min_eq_left (by omega);generalize E.bD g=j at*;obtain⟨c,m⟩:∃c,c=2^min (32-(j:Int)).toNat 4096:=⟨_,rfl⟩;have o:0<c:=by rw[m];exact Nat.two_pow_pos _
 rw[<-m]at z y;have t:=G m;have an:=G R;have au:=G z;have bb:=G y
 have H:Y (aD<=(E.words (E.val b*c)).length/\(E.words (E.val b*c)).length<=(E.words (E.val a*c)).length):=G (by
  refine⟨?_,E.eS (Nat.mul_le_mul_right _ ak.out)⟩;rw[<-F.out];exact E.eS (Nat.le_mul_of_pos_right _ o))
 have I:=G (E.gB (E.val a*c));have ay:=G (E.bl (E.val a*c));have ao:=G (E.gB (E.val b*c));have az:=G (E.bl (E.val b*c));have ah:=G (E.qU (E.val b*c));have J:Y (E.val a*c/(E.val b*c)=E.val a/E.val b/\E.val a*c%(E.val b*c)=E.val a%E.val b*c):=G ⟨Nat.mul_div_mul_right _ _ o,Nat.mul_mod_mul_right _ _ _⟩;have ar:=G o;clear m R z y o ag aR T;go_wp2_with fail;refine(rM (n:=32-(j:Int)) aM (by omega) (by omega)).mono ?_;rintro f w4 ⟨bs,rfl,Z,a1,u4⟩;rw[<-t.out]at Z;clear a1;generalize E.words (E.val a*c)=d at*;have bj:d.length<=2000000000:=aQ au.out (by omega);go_wp2_with(at_builtin;refine yC (w0:=w2) rfl (.tmp 52) (.tmp 53) rfl (n:=d.length) (xs:=d) rfl (Z.alloc _) (l:=[0]) rfl (ru w4 [0]).rd rfl (by omega) (u4.alloc _) ?_;intro bt w5 aK u5);obtain⟨bi,bg,rest,rfl,aN,a2,a3,N⟩:=rN aK (by omega);have aT:=N.lt;have a6:=a5.up u5;go_wp2_with fail;refine(rM (n:=32-(j:Int)) a6 (by rw[F.out];omega) (by omega)).mono ?_;rintro f w6 ⟨bu,rfl,aa,k6,u6⟩;rw[E.bl,<-t.out]at aa;clear k6;have aZ:=e7.hn aa ao.out aT;have aO:=N.up u6;have aG:=u5.trans u6;generalize E.words (E.val b*c)=e at*;have bk:e.length<=d.length:=H.out.2;have aL:2<=e.length:=aQ h1 H.out.1;obtain⟨p,Q⟩:∃p,d.length+1=p+e.length:=⟨d.length+1-e.length,by omega⟩;have x:Y ((d++[0]).length=d.length+1):=G (by simp);have av:Y (E.Ok (d++[0])):=G (E.qG.2 ⟨I.out,E.g0.2 ⟨E.b0,E.qF⟩⟩);have aw:Y (E.val (d++[0])=E.val a*c):=G (by rw[E.jL,ay.out];simp[E.val]);have K:Y (e.getD (e.length-1) 0≠0):=G (ah.out (by omega))
 have al:Y (E.val (d++[0])<E.B^p*E.val e):=G (by
  obtain⟨n,S⟩:∃n,e.length=n+2:=⟨e.length-2,by omega⟩;have h:=K.out;rw[S]at h;exact E.xU I.out S h (by omega))
 have am:Y ((d++[0]).length=p+e.length):=G (by rw[x.out];exact Q);clear Q;go_wp2_with fail;refine(zc rfl aL am.out x.out (by omega) aO av.out aZ K.out al.out).mono ?_;rintro f w7 ⟨bv,q,r,rfl,a7,aW,aP,U,i,A,B,aV⟩;have aH:=aV.up aG aN;rw[aw.out,az.out]at A B;rw[x.out]at aW i;have aA:Y (E.val q=E.val a/E.val b):=G (by rw[A,J.out.1]);have aB:Y (E.val r=E.val a%E.val b*c):=G (by rw[B,J.out.2]);have ab:=aP.ws U (by rw[i];exact a2) a3;rw[i]at ab;have aq:Y (r.length=d.length+1):=G i;clear A B i U;go_wp2_with fail;refine(eI a7 (by omega)).mono ?_;intro f bz a4;obtain⟨bw,rfl,s,u8⟩:=a4.ws;have aI:=aH.trans u8;rw[aA.out]at s;have a8:=ab.up u8;go_wp2_with fail;refine(yU (n:=32-(j:Int)) a8 (by rw[aq.out];omega) (by omega)).mono ?_;rintro f bA ⟨bx,rfl,af,u9⟩;have s:=s.up u9;have aJ:=aF.trans (aI.trans u9)
 have ax:Y (E.val r/2^(32-(j:Int)).toNat=E.val a%E.val b):=G (by
  rw[aB.out,<-an.out,<-t.out];exact Nat.mul_div_cancel _ ar.out)
 rw[ax.out]at af;go_wp2
 go_ret3
 exact ox s af rfl rfl aJ
theorem iT (ha:Ws w v a)(hb:Ws w u b)(c:a.length<=1000000000)(d:b.length<=1000000000)(h0:E.val b≠0):
 aj ae 134 #[v,u] w (j7 (E.words (E.val a/E.val b)) (E.words (E.val a%E.val b)) true w):=by
 rcases Nat.lt_or_ge (E.val a) (E.val b)with h|h
 .exact zd ha hb c d h
 .have f:(E.words (E.val b)).length≠0:=λh=>h0 (E.hq.1 h)
  by_cases e:(E.words (E.val b)).length=1
  .exact ze ha hb c d h e
  .exact zf ha hb c d h (by omega)
theorem zg {yi:Int}(x y:Nat)(u:xi=x)(v:yi=y)(bx:x<18446744073709551616)(l:y<18446744073709551616)(w:O):
 aj ae 162 #[H .u64 xi,H .u64 yi] w λe A=>e=aw (H .u64 ((Nat.gcd x y:Nat):Int))/\V w A:=by
 subst u v;have p:=G bx;have q:=G l;clear bx l;go_enter func162,ntmps162;go_wp2
 go_loopw[0,1] (λz f wr=> ∃(a b:Nat),z=H .u64 a/\f=H .u64 b/\Y (a<18446744073709551616/\b<18446744073709551616)/\Y (Nat.gcd a b=Nat.gcd x y)/\V w wr) (λ_ f _=>(aI f).toNat)
 case atStart=>exact⟨x,y,rfl,rfl,G ⟨p.out,q.out⟩,G rfl,V.refl w⟩
 case round=>
  obtain⟨a,b,rfl,rfl,g,i,m⟩:=hrel;rcases Nat.eq_zero_or_pos b with c|c
  .subst c;have o:Y (Nat.gcd x y=a):=G (by rw[<-i.out,Nat.gcd_zero_right]);go_wp2;go_ret;exact⟨by rw[o.out];rfl,m⟩
  .have C:((b:Int)==0)=false:=by simp;omega
   have D:((b:Int) !=0)=true:=by simp;omega
   have F:(b=0)=False:=eq_false (by omega);have j:Y (Nat.gcd b (a%b)=Nat.gcd x y):=G (by rw[E.oc];exact i.out);have s:=Nat.mod_lt a c;obtain⟨r,d⟩:∃r,r=a%b:=⟨_,rfl⟩;rw[<-d]at j s;have k:Y ((a:Int)%(b:Int)=(r:Int)):=G (by rw[d,Int.natCast_emod]);have B:Y ((a:Int).tmod (b:Int)=(r:Int)):=G (by rw[Int.tmod_eq_emod_of_nonneg (by omega)];exact k.out);have n:Y (b<18446744073709551616/\r<18446744073709551616):=G ⟨g.out.2,by have:=g.out.2;omega⟩;clear d;go_wp2
   go_region
   all_goals
    rw[k.out];have t:=m.drew;go_wp2
    go_roundw
    case rel=>exact⟨b,r,rfl,rfl,n,j,t⟩
    case measure=>simp[aI];omega
theorem oz (ha:Ws w v a)(hb:Ws w u b)(an:a.length<=100000000)(ao:b.length<=100000000):
 aj ae 132 #[v,u] w (gK (E.words (Nat.gcd (E.val a) (E.val b))) w):=by
 have al:=fv ha.ok an;have am:=fv hb.ok ao;go_enter func132,ntmps132;go_wp2_with fail;refine(eI ha (by omega)).mono ?_;intro i I P;obtain⟨H,rfl,n,e⟩:=P.ws;clear P;have g:=(V.refl w).trans e;have ha:=ha.up e;have hb:=hb.up e;clear e;go_wp2_with fail;refine(eI hb (by omega)).mono ?_;intro i ax Q;obtain⟨av,rfl,ar,l⟩:=Q.ws;clear Q;have R:=g.trans l;have ha:=ha.up l;have hb:=hb.up l;have n:=n.up l;clear l g;have ah:=R;clear ha hb;go_wp2_with fail
 go_loopg [0,1] (E.val b) (λC aq n wr=> ∃(d:Nat),Ws wr aq (E.words d)/\Ws wr n (E.words C)/\Y ((E.words d).length<=100000000/\(E.words C).length<=100000000)/\Y (Nat.gcd d C=Nat.gcd (E.val a) (E.val b))/\V w wr)
 case atStart=>exact⟨E.val a,n,ar,G ⟨al,am⟩,G rfl,ah⟩
 case round=>
  obtain⟨d,f,c,X,y,B⟩:=hrel;have K:=X.out;obtain⟨au,aA,rfl⟩:=f.form;obtain⟨ai,aB,rfl⟩:=c.form
  by_cases M:2<(E.words gk).length
  .have t:Y (E.val (E.words gk)≠0):=G (by
    rw[E.bl];intro z;rw[z,E.en]at M;simp at M)
   have s:Y (Nat.gcd gk (d%gk)=Nat.gcd (E.val a) (E.val b)):=G (by rw[E.oc];exact y.out);have p:Y (d%gk<gk):=G (Nat.mod_lt _ (Nat.pos_of_ne_zero (by have:=t.out;rw[E.bl]at this;exact this)));have Z:Y ((E.words gk).length<=100000000/\(E.words (d%gk)).length<=100000000):=G ⟨K.2,aQ (E.eS (Nat.le_of_lt p.out)) K.2⟩;go_wp2_with fail;refine(iT f c (by omega) (by omega) t.out).mono ?_;rintro i I ⟨H,af,rfl,q,r,e⟩;have g:=(V.refl wr).trans e;have f:=f.up e;have c:=c.up e;clear e;rw[E.bl,E.bl]at r;have ag:=B.trans g;go_wp2
   go_roundg (d%gk)
   case measure=>exact p.out
   case rel=>exact⟨gk,c,r,Z,s,ag⟩
  .rcases Nat.eq_zero_or_pos gk with m|m
   .subst m;have T:Y (Nat.gcd (E.val a) (E.val b)=d):=G (by rw[<-y.out,Nat.gcd_zero_right]);rw[E.en]at*;go_wp2;go_ret;exact⟨_,rfl,by rw[T.out];exact f,B⟩
   .have t:Y (E.val (E.words gk)≠0):=G (by rw[E.bl];omega)
    have N:((E.words gk).length:Int)≠0:=by
     have:(E.words gk).length≠0:=λz=>by have:=E.hq.1 z;omega
     omega
    have aC:(((E.words gk).length:Int)==0)=false:=by simpa using N
    have s:Y (Nat.gcd gk (d%gk)=Nat.gcd (E.val a) (E.val b)):=G (by rw[E.oc];exact y.out);have p:=G (Nat.mod_lt d m);have A:(E.words gk).length<=2:=by omega
    have L:(E.words (d%gk)).length<=2:=aQ (E.eS (Nat.le_of_lt p.out)) A
    have x:Y (gk<18446744073709551616/\d%gk<18446744073709551616):=G (by
     have c:=E.eo.1 A;have J:=E.eo.1 L;rw[E.bL]at c J;exact⟨c,J⟩)
    have U:Y (Nat.gcd gk (d%gk)<18446744073709551616):=G (Nat.lt_of_le_of_lt (Nat.gcd_le_left _ m) x.out.1);have aa:=G (j6 A);have ab:=G (j6 L);clear N m;go_wp2_with fail;refine(iT f c (by omega) (by omega) t.out).mono ?_;rintro i I ⟨H,af,rfl,q,r,e⟩;have g:=(V.refl wr).trans e;have f:=f.up e;have c:=c.up e;clear e;rw[E.bl,E.bl]at r;go_wp2_with fail;refine(rG c (by omega)).mono ?_;rintro i aD ⟨rfl,rfl⟩;rw[E.bl,aa.out];go_wp2_with fail;refine(rG r (by omega)).mono ?_;rintro i aE ⟨rfl,rfl⟩;rw[E.bl,ab.out];go_wp2_with fail;refine(zg gk (d%gk) rfl rfl x.out.1 x.out.2 _).mono ?_;rintro i ay ⟨rfl,j⟩;have F:=g.trans j;have f:=f.up j;have c:=c.up j;have q:=q.up j;have r:=r.up j;clear j g;rw[s.out];go_wp2_with fail;refine(h7 (Nat.gcd (E.val a) (E.val b)) rfl (by rw[<-s.out];exact U.out) _).mono ?_;rintro i az ⟨aw,rfl,o,k⟩;have S:=F.trans k;have f:=f.up k;have c:=c.up k;have q:=q.up k;have r:=r.up k;clear k F;have ak:=B.trans S;go_wp2;go_ret;exact⟨_,rfl,o,ak⟩
def rV (l m:List Nat)(w:O)(e:aO)(a:O):Prop:= ∃c b,e=aw (aY #[c,b])/\Ws a c l/\Ws a b m/\V w a
theorem oA (b:Ws ab v l)(a:Ws ab u m)(h1:l=j8)(h2:m=j9)(c:V w ab):rV j8 j9 w (aw (aY #[v,u])) ab:=⟨v,u,rfl,by rw[<-h1];exact b,by rw[<-h2];exact a,c⟩
theorem zi (n:Nat):((E.words n).length≠1/\decide (n=1)=false)\/ ∃x,E.words n=[x]/\x=n:=by
 by_cases a:(E.words n).length=1
 .obtain⟨x,b⟩:=List.length_eq_one_iff.1 a;refine .inr ⟨x,b,?_⟩;have:=E.bl n;rw[b]at this
  simpa[E.val]using this
 .refine .inl ⟨a,?_⟩;have:n≠1:=λc=>a (by rw[c,yN];rfl)
  simpa using this
theorem rW (h:Ws w v (E.words n))(m:(E.words n).length<=10000000000):aj ae 133 #[v] w λe q=>e=aw (J (decide (n=1)))/\w=q:=by
 rcases zi n with⟨r,b⟩|⟨a,d,rfl⟩
 .have g:=G b;clear b;obtain⟨f,l,rfl⟩:=h.form;have s:(((E.words n).length:Int)==1)=false:=by simp;omega
  go_enter func133,ntmps133;go_wp2;go_ret;exact⟨by rw[g.out];rfl,rfl⟩
 .rw[d]at h;clear d m;obtain⟨f,l,rfl,_,_,_,p⟩:=h;obtain⟨j,o,rfl,t,c⟩:=ed p (k:=0) (by simp);have c:w.cell? ⟨j,o,none⟩=U (H a7 (a:Int)):=c;have i:Y (decide (a=1)=((a:Int)==1)):=G (by rw[Bool.eq_iff_iff];simp;omega);go_enter func133,ntmps133;go_wp2;go_ret;exact⟨by rw[i.out];rfl,rfl⟩
theorem zj (ha:Ws w v a)(hb:Ws w u b)(o:a.length<=100000000)(p:b.length<=100000000):
 aj ae 99 #[v,u] w (rV (E.words (E.val a/Nat.gcd (E.val a) (E.val b))) (E.words (E.val b/Nat.gcd (E.val a) (E.val b))) w):=by
 have Q:=E.xV (fv ha.ok o) (fv hb.ok p);generalize B:Nat.gcd (E.val a) (E.val b)=g at*;have t:=G B;clear B;rcases Nat.eq_zero_or_pos g with n|n
 .subst n;go_enter func99,ntmps99;go_wp2_with fail;refine(oz ha hb o p).mono ?_;rintro i A ⟨z,rfl,c,d⟩;have k:=(V.refl w).trans d;have ha:=ha.up d;have hb:=hb.up d;clear d;rw[t.out,E.en]at c;obtain⟨_,_,rfl⟩:=c.form;go_wp2
  go_ret2
  exact oA (Ws.nil _) (Ws.nil _) (by rw[Nat.div_zero,E.en]) (by rw[Nat.div_zero,E.en]) k
 .have R:(((E.words g).length:Int)==0)=false:=by
   have:(E.words g).length≠0:=λL=>by have:=E.hq.1 L;omega
   simpa using this
  by_cases m:g=1
  .have s:Y (decide (g=1)=true):=G (by simpa using m);have y:Y (E.val a/g=E.val a/\E.val b/g=E.val b):=G (by rw[m,Nat.div_one,Nat.div_one];exact⟨rfl,rfl⟩);clear m n;go_enter func99,ntmps99;go_wp2_with fail;refine(oz ha hb o p).mono ?_;rintro i A ⟨z,rfl,c,d⟩;have k:=(V.refl w).trans d;have ha:=ha.up d;have hb:=hb.up d;clear d;rw[t.out]at c;obtain⟨_,_,rfl⟩:=c.form;go_wp2_with fail;refine(rW c (by omega)).mono ?_;rintro i M ⟨rfl,rfl⟩;rw[s.out];go_wp2_with fail;refine(eI ha (by omega)).mono ?_;intro i J C;obtain⟨H,rfl,j,f⟩:=C.ws;clear C;have l:=k.trans f;have ha:=ha.up f;have hb:=hb.up f;have c:=c.up f;clear f k;go_wp2_with fail;refine(eI hb (by omega)).mono ?_;intro i K D;obtain⟨I,rfl,q,e⟩:=D.ws;clear D;have r:=l.trans e;have ha:=ha.up e;have hb:=hb.up e;have c:=c.up e;have j:=j.up e;clear e l;go_wp2
   go_ret2
   exact oA j q (by rw[y.out.1]) (by rw[y.out.2]) r
  .have s:Y (decide (g=1)=false):=G (by simpa using m);have x:Y (E.val (E.words g)≠0):=G (by rw[E.bl];omega);clear m n;go_enter func99,ntmps99;go_wp2_with fail;refine(oz ha hb o p).mono ?_;rintro i A ⟨z,rfl,c,d⟩;have k:=(V.refl w).trans d;have ha:=ha.up d;have hb:=hb.up d;clear d;rw[t.out]at c;obtain⟨_,_,rfl⟩:=c.form;go_wp2_with fail;refine(rW c (by omega)).mono ?_;rintro i M ⟨rfl,rfl⟩;rw[s.out];go_wp2_with fail;refine(iT ha c (by omega) (by omega) x.out).mono ?_;rintro i J ⟨H,N,rfl,j,F,f⟩;have l:=k.trans f;have ha:=ha.up f;have hb:=hb.up f;have c:=c.up f;clear f k;rw[E.bl]at j;go_wp2_with fail;refine(iT hb c (by omega) (by omega) x.out).mono ?_;rintro i K ⟨I,P,rfl,q,S,e⟩;have r:=l.trans e;have ha:=ha.up e;have hb:=hb.up e;have c:=c.up e;have j:=j.up e;have F:=F.up e;clear e l;rw[E.bl]at q;go_wp2
   go_ret2
   exact oA j q rfl rfl r
end Go.Proofs.YtjopfpegcckllaaGreatDoor
