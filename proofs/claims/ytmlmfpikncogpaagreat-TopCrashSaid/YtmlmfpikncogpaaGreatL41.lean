import Derived.Maps.OwnOps
import Derived.Maps.OwnSet
import Derived.Test.YtmlmfpikncogpaaGreatL33
import Derived.Test.YtmlmfpikncogpaaGreatL40
namespace Go.Proofs.YtmlmfpikncogpaaGreat
open Go.RowKit
set_option linter.unusedSimpArgs false
set_option linter.unusedVariables false
set_option maxRecDepth 100000
set_option maxHeartbeats 16000000
namespace Wa
section
open Go.RowKit Dk
def lN (s:St) (fi co e:Nat):Prop:=∃j,j<co/\epo (sec s (fi+j))=e
def em (a:Nat->Prop) (ep m:Nat):Prop:=
 (ep<=m/\m<4294967296/\¬a m/\∀e,ep<=e->e<m->a e)\/(m=0/\∀e,ep<=e->e<4294967296->a e)
theorem em.unique {a:Nat->Prop} {ep m b:Nat} (h:em a ep m) (l:em a ep b):m=b:=by
 rcases h with ⟨c,d,g,j⟩ | ⟨c,d⟩<;>rcases l with ⟨e,f,i,k⟩ | ⟨e,f⟩
 ·rcases Nat.lt_trichotomy m b with h | h | h
  ·exact absurd (k m c h) g
  ·exact h
  exact absurd (j b e h) i
 ·exact absurd (f m c d) g
 ·exact absurd (d b e f) i
 omega
def fI (w:World) (b n:Nat) (T:Nat->Prop):Prop:=
 ∃D:DataW Unit,w.ownsMap Tryz.prog 80 (plainElem Tryz.prog 4) b n D/\∀e:Nat,e<4294967296->∃bb:Bool,D.atKey (.int .u32 (e:Int)) (.lit (.bool false))=.lit (.bool bb)/\(bb=true↔T e)
theorem fI.start (w:World):fI (w.alloc (.map #[] 0)) w.heap.size 0 (fun _=>False):=
 ⟨_,World.ownsMap_made _ _ _ _,fun e _=>⟨false,rfl,by simp⟩⟩
theorem fI.keep {w w':World} {X:List Nat} {b n:Nat} {T:Nat->Prop} (h:fI w b n T) (i:aa X w w') (g:b∉X):fI w' b n T:=by
 obtain⟨D,⟨d,a,c,e⟩,f⟩:=h;exact⟨D,⟨d,a,(i.block b (Dy.1 c).1 g).trans c,e⟩,f⟩
theorem fI.congr_ {w:World} {b n:Nat} {T a:Nat->Prop} (h:fI w b n T) (k:∀e,T e↔a e):fI w b n a:=by
 obtain⟨D,d,f⟩:=h;exact⟨D,d,fun e j=>by obtain⟨c,g,i⟩:=f e j;exact⟨c,g,i.trans (k e)⟩⟩
theorem Bd {e:Nat} (a:e<4294967296):keyOf Tryz.prog 80 (.int .u32 (e:Int))=some (.int .u32 (e:Int)):=
 Maps.keyOf_int_mk Tryz.underlying80 (by simp[Lit.wf,IntKind.min,IntKind.max,IntKind.signed,IntKind.bits];omega)
theorem uu:Maps.Keyed Tryz.prog 80:=Maps.int_keyed Tryz.underlying80
theorem Cg (w:World):(zeroValue 4).run Tryz.prog w=.ok (.bool false) w:=by kernel_rfl
theorem fI.look {w:World} {b n:Nat} {T:Nat->Prop} (h:fI w b n T) {e:Nat} (i:e<4294967296):∃d:Bool,(Instr.lookup 182 (.map (some b)) (.int .u32 (e:Int)) false).run Tryz.prog w=.ok (.bool d) w/\(d=true↔T e):=by
 obtain⟨D,j,k⟩:=h;obtain⟨v,l,a,c⟩:=j.lookup uu Tryz.underlying182 (Cg w) (plainElem_bool Tryz.underlying4 false) (Bd i);obtain⟨d,f,g⟩:=k e i;rw[f] at c;refine⟨d,?_,g⟩;rw[a];unfold plainElem at c;rw[Tryz.underlying4] at c;cases v<;>simp at c
 rw[c.1]
theorem pH {w:World} {g:Array Oper} {rest:List Oper} {o:Oper} {a:Act} {Q:Exit->Act->World->Prop} (y:o.guard=none) (m x v:Operand) (p:o.op=Op.mapUpdate 182 m x v)
 (b n:Nat) (T:Nat->Prop) (z:a.eval m=.map (some b)) (h:fI w b n T) (C:n<1000) (e:Nat) (u:e<4294967296) (B:a.eval x=.int .u32 (e:Int)) (A:a.eval v=.bool true)
 (t:∀w',Z (fI w' b (n+1) (fun k=>k=e\/T k))->Z (aa [b] w w')->wpList Tryz.prog g Q rest (a.put o.dst undef) w'):wpList Tryz.prog g Q (o::rest) a w:=by
  obtain⟨D,q,s⟩:=h;refine wpList_mapUpdate_own _ y m x v 182 p 80 4 uu Tryz.underlying182 (plainElem Tryz.prog 4) b n D z q (by unfold maxLen;omega) _ _ (.int .u32 (e:Int)) B A (Bd u) (.lit (.bool true)) [] (plainElem_bool Tryz.underlying4 true) ?_;intro w1 f c;refine t w1 (bZ ⟨_,f,fun k l=>?_⟩) (bZ (aa.grown c (by intro k l;cases l;simp)));by_cases d:k=e
  ·subst d;exact⟨true,Maps.atKey_put_same q.isMap (by trivial) _ _,by simp⟩
  obtain⟨r,i,j⟩:=s k l;refine⟨r,?_,by rw[j];simp[d]⟩;rw[Maps.atKey_put_other (by intro h;injection h with _ h;exact d (by omega))];exact i
def oD (s:St) (fi co ep:Nat) (w:World) (e:Ending) (w':World):Prop:=
 ∃m:Nat,em (lN s fi co) ep m/\m<4294967296/\e=.returned (.tuple #[.int .u32 m,I (if m=0 then 16 else 0)])/\aa [] w w'
theorem yE (w:World) (D L:Nat) (s:St) (fi co ep:Nat) (y:aZ w D L s) (f:s.down=false) (z:okR s.n fi co ep) (J:ep<4294967296) (a4:co<=100):
 Calls Tryz.prog 53 #[.pointer (V D),I fi,I co,.int .u32 ep] w (oD s fi co ep w):=by
  have hn:=y.n;have a1:=z;unfold okR at a1;have C:=eV w D L s fi co ep y J (by omega) (by omega);rw[decide_eq_true z] at C;have A:=eb w D L s y;rw[f] at A;replace C:=bZ C;replace A:=bZ A;replace y:=bZ y;replace z:=bZ z;have a0:= @run_makeMap Tryz.prog;go_enter Tryz.func53,Tryz.ntmps53;go_wp2_with fail;refine C.o.mono ?_;rintro e w1 ⟨rfl,rfl⟩;go_wp2_with fail;refine A.o.mono ?_;rintro e w1 ⟨rfl,rfl⟩;clear C A;go_wp2_with fail;have F:=bZ (fI.start w);have g:=bZ ((aa.refl [] w).alloc (.map #[] 0));clear a0;go_loopw [24] (fun iv wr=>∃j:Nat,j<=co/\iv=I j/\Z (fI wr w.heap.size j (fun e=>∃i,i<j/\epo (sec s (fi+i))=e))/\Z (aa [] w wr)) (fun iv _=>co - (intOf iv).toNat)
  case atStart=>exact⟨0,C3 _,rfl,bZ (by simpa using F.o),g⟩
  obtain⟨j,X,rfl,p,a⟩:=hrel;by_cases a5:j<co
  ·have hi:fi+j<s.n:=by omega
   have H:cKd s ((fi+j:Nat):Int)=0:=by unfold cKd;rw[f];simp;omega
   have B:=fU wr D L s (fi+j) (y.o.keep a.o (by simp) (by simp)) H hi;rw[show ((fi+j:Nat):Int)=(fi:Int)+(j:Int) by omega] at B;have a3:=mr y.o hi;generalize O:sec s (fi+j)=b at*;replace O:=bZ O;replace B:=bZ B;have g:(j:Int)<(co:Int):=by omega
   clear H;go_wp2_with fail;refine B.o.mono ?_;rintro e w1 ⟨rfl,hB,k1⟩;replace p:=bZ (p.o.keep k1 (by simp));replace a:=bZ (a.o.trans k1);have r:Bts w1 (some (U wr.heap.size 60)) (b.drop 60):=.inr ⟨_,60,rfl,fun j v X=>by
    rw[hB.cell];rw[DK] at X;simp[X]⟩
   have Q:=bZ (dy w1 (some (U wr.heap.size 60)) (b.drop 60) 4 4 r (by rw[Da];omega) (by omega));rw[show num (b.drop 60)=epo b from rfl] at Q;have T:epo b<4294967296:=sN _;generalize N:epo b=E at*;replace N:=bZ N;clear B hB r k1;go_wp2_with fail;refine Q.o.mono ?_;rintro e w2 ⟨rfl,m,rfl⟩;replace p:=bZ (p.o.keep ((aa.refl [] w1).drewN m) (by simp));replace a:=bZ (a.o.drewN m);generalize w1.drewN m=w2 at*;clear Q;go_wp2_with (refine pH rfl _ _ _ rfl w.heap.size j _ rfl p.o ?_ E T rfl rfl ?_;omega;intro w3 W k3);go_roundw
   case rel=>
    refine⟨j+1,by omega,by go_num,bZ ?_,bZ ((a.o.nil.trans k3.o).mono (fun x z=>.inr (by simp at z;omega)))⟩;have u:=W.o;refine u.congr_ ?_;intro e;constructor
    ·rintro(h | ⟨i,M,q⟩)
     ·exact⟨j,by omega,by rw[O.o,N.o,h]⟩
     exact⟨i,by omega,q⟩
    rintro⟨i,M,q⟩;rcases DR i j with h4 | h4
    ·exact .inr ⟨i,h4,q⟩
    obtain rfl:i=j:=by omega
    rw[O.o,N.o] at q;exact .inl q.symm
   case measure=>simp[intOf];omega
  obtain rfl:j=co:=by omega
  have g:¬(j:Int)<(j:Int):=by omega
  have K:=a;clear F;go_wp2_with fail;go_loopw [3] (fun R wr=>∃k:Nat,ep<=k/\k<4294967296/\R=.int .u32 k/\Z (∀e,ep<=e->e<k->lN s fi j e)/\Z (fI wr w.heap.size j (fun e=>∃i,i<j/\epo (sec s (fi+i))=e))/\Z (aa [] w wr)) (fun R _=>4294967296 - (intOf R).toNat)
  case atStart=>exact⟨ep,C9 _,J,rfl,bZ (fun e u M=>absurd u (by omega)),p,a⟩
  clear p a K;obtain⟨k,g,Y,rfl,t,p,a⟩:=hrel;obtain⟨bb,a2,d⟩:=p.o.look Y;replace d:=bZ d;cases bb
  ·go_wp2_with fail;go_ret2;refine⟨k,.inl ⟨g,Y,(fun P=>by have:=d.o.2 P;cases this),t.o⟩,Y,?_,a.o⟩;rw[if_neg (by omega)];rfl
  have P:lN s fi j k:=d.o.1 rfl;have c:Z (∀e,ep<=e->e<k+1->lN s fi j e):=bZ (by
   intro e u M;rcases DR e k with q | q
   ·exact t.o e u q
   obtain rfl:e=k:=by omega
   exact P)
  clear P d;by_cases l:k=4294967295
  ·have ew:IntKind.u32.wrap ((k:Int)+1)=0:=by rw[IntKind.wrap_u32'];omega
   have S:((k:Int)+1)%4294967296=0:=by omega
   replace l:=bZ l;go_wp2_with fail;go_ret2;have:=l.o;exact⟨0,.inr ⟨rfl,fun e u M=>c.o e u (by omega)⟩,by omega,rfl,a.o⟩
  have ew:IntKind.u32.wrap ((k:Int)+1)=(k:Int)+1:=by rw[IntKind.wrap_u32'];omega
  have S:((k:Int)+1)%4294967296=(k:Int)+1:=by omega
  have a6:((k:Int)+1==0)=false:=by simp;omega
  go_wp2_with fail;go_roundw
  case rel=>exact⟨k+1,by omega,by omega,congrArg (Value.int .u32) (by omega),c,p,a⟩
  case measure=>simp[intOf];omega
end
section
open Go.RowKit Dk
theorem jX (d:List UInt8) (j:Nat):aK (d.drop 59) j=aK d (j+1):=by
 unfold aK;rw[Eo,show 59+59*j=59*(j+1) by omega]
theorem jW (d:List UInt8):aK d 0=d.take 59:=by
 unfold aK;rw[Nat.mul_zero,EE]
theorem rt {s:St} {q:St×Int} {fi co ep:Nat} {L r:List UInt8} (h:su (sec s) fi co ep L)
 (at_:∀j,59*j<(L.drop (59*(L.length/59))++enc r).length->sec q.1 (fi+L.length/59+j)=bq (aK (L.drop (59*(L.length/59))++enc r) j) ep)
 (off:∀k,k<fi+L.length/59\/59*(fi+L.length/59)+(L.drop (59*(L.length/59))++enc r).length<=59*k->sec q.1 k=sec s k):
 su (sec q.1) fi co ep (L++enc r):=by
  have d:L.drop (59*(L.length/59))++enc r=(L++enc r).drop (59*(L.length/59)):=by rw[DI (by omega)]
  have a:(L.drop (59*(L.length/59))++enc r).length=(L++enc r).length - 59*(L.length/59):=by rw[d,Da]
  have l:L.length<=(L++enc r).length:=by rw[CU];omega
  have g:L.length<(L++enc r).length:=by rw[CU,cQ];omega
  intro j i;have c:=h j i;by_cases b:59*j<(L++enc r).length
  ·rw[if_pos b];by_cases f:j<L.length/59
   ·rw[off (fi+j) (.inl (by omega))];rw[if_pos (by omega)] at c;rw[c]
    congr 1
    unfold aK;rw[DI (by omega),DV (by rw[Da];omega)]
   have e:=at_ (j - L.length/59) (by rw[a];omega);rw[show fi+L.length/59+(j - L.length/59)=fi+j by omega,d] at e;rw[e]
   congr 1
   unfold aK;rw[Eo,show 59*(L.length/59)+59*(j - L.length/59)=59*j by omega]
  rw[if_neg b,off (fi+j) (.inr (by rw[a];omega))];rw[if_neg (by omega)] at c;exact c
theorem zH {s:St} {i:Nat} {b:List UInt8} (d:s.down=false) (e:s.left≠1) (f:i<s.n) (a:b.length=64):
 wr s i b=({ s with mem:=splice s.mem (64*i) b,left:=if 1<s.left then s.left - 1 else s.left,writes:=s.writes+1 },0):=by
  have c:cKd s (i:Int)=0:=by unfold cKd;rw[d];simp;omega
  unfold wr;rw[if_neg (by simp[c]),if_neg (by simp[a]),if_neg e];simp
theorem mn {s:St} {i:Nat} {b:List UInt8} (d:s.down=false) (e:s.left=1) (f:i<s.n) (a:b.length=64):
 wr s i b=(fail { s with mem:=splice s.mem (64*i) (b.take s.bytes.toNat) },15):=by
  have c:cKd s (i:Int)=0:=by unfold cKd;rw[d];simp;omega
  unfold wr;rw[if_neg (by simp[c]),if_neg (by simp[a]),if_pos e];simp
structure CK (s:St) (i ep:Nat) (d:List UInt8) (q:St×Int):Prop where
 ok:q.2=0
 down:q.1.down=false
 n:q.1.n=s.n
 len:q.1.mem.length=64*s.n
 bytes:q.1.bytes=s.bytes
 at_:∀j,59*j<d.length->sec q.1 (i+j)=bq (aK d j) ep
 off:∀k,k<i\/59*i+d.length<=59*k->sec q.1 k=sec s k
 w0:s.writes<=q.1.writes
 w1:q.1.writes*59<=s.writes*59+d.length+58
structure Cb (s:St) (i ep:Nat) (d:List UInt8) (q:St×Int):Prop where
 err:q.2=15
 down:q.1.down=true
 n:q.1.n=s.n
 len:q.1.mem.length=64*s.n
 ex:∃m,59*m<d.length/\(∀j,j<m->sec q.1 (i+j)=bq (aK d j) ep)/\
  sec q.1 (i+m)=(bq (aK d m) ep).take s.bytes.toNat++(sec s (i+m)).drop ((bq (aK d m) ep).take s.bytes.toNat).length/\∀k,k<i\/i+m<k->sec q.1 k=sec s k
theorem oQ (ep:Nat):∀(f:Nat) (s:St) (i:Nat) (d:List UInt8),s.down=false->s.mem.length=64*s.n->d.length<=f->59*i+d.length<=59*s.n->CK s i ep d (wrs s i ep f d)\/Cb s i ep d (wrs s i ep f d)
 | 0,s,i,d,h1,h3,h4,h5=>by
  have:d=[]:=Dh (by omega);subst this;exact .inl ⟨rfl,h1,rfl,h3,rfl,fun j p=>by simp at p,fun k _=>rfl,Int.le_refl _,by show s.writes*59<=s.writes*59+(0:Nat)+58;omega⟩
 | f+1,s,i,d,h1,h3,h4,h5=>by
  by_cases x:d=[]
  ·subst x;rw[ml];exact .inl ⟨rfl,h1,rfl,h3,rfl,fun j p=>by simp at p,fun k _=>rfl,Int.le_refl _,by show s.writes*59<=s.writes*59+(0:Nat)+58;omega⟩
  have H:0<d.length:=E5.2 x;have E:i<s.n:=by omega
  have l:(bq (d.take 59) ep).length=64:=nt (by rw[CY];omega);have z:i*64+64<=s.mem.length:=by omega
  by_cases c:s.left=1
  ·have t:=mn (s:=s) (i:=i) (b:=bq (d.take 59) ep) h1 c E l;rw[mm x (by rw[t];show (15:Int)≠0;decide),t];right;have v:((bq (d.take 59) ep).take s.bytes.toNat).length<=64:=by rw[CY];omega
   have g:(splice s.mem (64*i) ((bq (d.take 59) ep).take s.bytes.toNat)).length=s.mem.length:=length_splice _ _ _ (by omega);refine⟨rfl,rfl,rfl,by show (splice _ _ _).length=_;rw[g];exact h3,0,by omega,fun j p=>absurd p (Fr _),?_,fun k y=>?_⟩
   ·rw[jW];exact iu s i _ v z
   exact dH s i k _ v z (by omega)
  have t:=zH (s:=s) (i:=i) (b:=bq (d.take 59) ep) h1 c E l;rw[pF x (by rw[t]),t];have g:(splice s.mem (64*i) (bq (d.take 59) ep)).length=s.mem.length:=length_splice _ _ _ (by rw[l];omega);have a:=oQ ep f { s with mem:=splice s.mem (64*i) (bq (d.take 59) ep),left:=if 1<s.left then s.left - 1 else s.left,writes:=s.writes+1 } (i+1) (d.drop 59) h1 (by show (splice _ _ _).length=_;rw[g];exact h3)
   (by rw[Da];omega) (by rw[Da];show 59*(i+1)+(d.length - 59)<=59*s.n;omega)
  have o:=eG s i (bq (d.take 59) ep) s.down (if 1<s.left then s.left - 1 else s.left) (s.writes+1) l z;have q:=fun k y=>df s i k (bq (d.take 59) ep) s.down (if 1<s.left then s.left - 1 else s.left) (s.writes+1) l z y;rcases a with a | a
  ·left;have w:=a.w1;have D:=a.w0;have r:=a.at_;have h:=a.off;rw[Da] at r h w;refine⟨a.ok,a.down,a.n,a.len,a.bytes,fun j p=>?_,fun k y=>?_,?_,?_⟩
   ·cases j with
    | zero=>
     have e:=(h i (.inl (by omega))).trans o;rw[<-jW] at e;exact e
    | succ j=>
     have e:=r j (by omega);rw[jX] at e;rw[show i+(j+1)=i+1+j by omega];exact e
   ·exact(h k (by omega)).trans (q k (by omega))
   ·dsimp only at D ⊢;omega
   dsimp only at w ⊢;omega
  right;obtain⟨m,A,B,C,u⟩:=a.ex;rw[Da] at A;refine⟨a.err,a.down,a.n,a.len,m+1,by omega,fun j p=>?_,?_,fun k y=>?_⟩
  ·cases j with
   | zero=>
    have e:=(u i (.inl (by omega))).trans o;rw[<-jW] at e;exact e
   | succ j=>
    have e:=B j (by omega);rw[jX] at e;rw[show i+(j+1)=i+1+j by omega];exact e
  ·have e:=C;rw[jX] at e;have F:=q (i+1+m) (by omega);rw[show i+(m+1)=i+1+m by omega];rw[F] at e;exact e
  exact(u k (by omega)).trans (q k (by omega))
def Bh (S:Nat->List UInt8) (first a ep:Nat) (L:List UInt8):Prop:=
 ∀j,j<a->if 59*j<L.length then epo (S (first+j))=ep/\cnt (S (first+j))=(aK L j).length/\(S (first+j)).take (aK L j).length=aK L j else epo (S (first+j))≠ep\/(59*j<L.length+59/\L.length%59≠0)
theorem mS {S:Nat->List UInt8} {first a ep:Nat} {L:List UInt8} (h:Bh S first a ep L) (l:L.length<=59*a):
 ∀k j,j+k=a->59*j<=L.length->cT S ep k (first+j)=L.drop (59*j)
 | 0,j,hj,_=>by
  rw[DB (by omega)];rfl
 | k+1,j,hj,hjl=>by
  have c:=h j (by omega);by_cases b:59*j<L.length
  ·rw[if_pos b] at c;obtain⟨d,f,i⟩:=c;have e:=gP L j;rw[lw,if_neg (by rw[d,f,e];omega),f,i];by_cases g:(aK L j).length<59
   ·rw[if_pos g,DA];unfold aK;rw[C6 (by rw[Da];omega)]
   rw[if_neg g];have m:=mS h l k (j+1) (by omega) (by omega);rw[show first+j+1=first+(j+1) by omega,m];unfold aK;rw[show 59*(j+1)=59*j+59 by omega,<-Eo,Du]
  rw[if_neg b] at c;have d:epo (S (first+j))≠ep:=by
   rcases c with h | ⟨_,h⟩
   ·exact h
   omega
  rw[lx (.inl d),DB (by omega)]
theorem mR {S:Nat->List UInt8} {first a ep:Nat} {L:List UInt8} (h:Bh S first a ep L) (b:L.length<=59*a):cT S ep a first=L:=by
 have:=mS h b a 0 (by omega) (by omega);simpa using this
theorem tz (L:List UInt8) (K j:Nat) (h:59*(j+1)<=K\/L.length<=K):aK (L.take K) j=aK L j:=by
 unfold aK;rcases h with h | h
 ·rw[List.drop_take,Eu,Es (by omega)]
 rw[C6 h]
theorem rp (a b c d:UInt8):num [a,b,c,d]=a.toNat*16777216+b.toNat*65536+c.toNat*256+d.toNat:=rfl
theorem ur {a b:List UInt8} (p:a.length=4) (q:b.length=4) (h:num a=num b):a=b:=by
 obtain⟨c,d,e,f,r,rfl⟩:=BN a (by omega);obtain⟨g,i,j,k,s,rfl⟩:=BN b (by omega);obtain rfl:r=[]:=Dh (by simp only[Dj] at p;omega);obtain rfl:s=[]:=Dh (by simp only[Dj] at q;omega);rw[rp,rp] at h;have x:=c.toNat_lt;have y:=d.toNat_lt;have z:=e.toNat_lt;have A:=f.toNat_lt;have t:=g.toNat_lt;have u:=i.toNat_lt;have v:=j.toNat_lt;have w:=k.toNat_lt;have l:c=g:=E6.1 (by omega);have m:d=i:=E6.1 (by omega);have n:e=j:=E6.1 (by omega);have o:f=k:=E6.1 (by omega);rw[l,m,n,o]
theorem zZ {P O:List UInt8} {t ep:Nat} (b:P.length=64) (c:O.length=64) (f:epo P=ep) (h:60<=t) (i:epo (P.take t++O.drop (P.take t).length)=ep):P.take t++O.drop (P.take t).length=P:=by
 have g:(P.take t).length=min t 64:=by rw[CY,b]
 have d:(P.take t++O.drop (P.take t).length).length=64:=by rw[CU,Da,g,c];omega
 have a:(P.take t++O.drop (P.take t).length).take 60=P.take 60:=by
  rw[DV (by omega),Eu,Es h]
 have e:(P.take t++O.drop (P.take t).length).drop 60=P.drop 60:=by
  refine ur (by rw[Da,d]) (by rw[Da,b]) ?_;exact i.trans f.symm
 rw[<-Du 60 (P.take t++O.drop (P.take t).length),a,e,Du]
theorem us {P O:List UInt8} {t:Nat} (b:P.length=64) (c:t<=60):epo (P.take t++O.drop (P.take t).length)=epo O:=by
 unfold epo;have a:(P.take t).length=t:=by rw[CY,b];omega
 rw[a,List.drop_append,DB (by omega),Dm,Eo,a,show t+(60 - t)=60 by omega]
theorem vl {s:St} {q:St×Int} {fi co ep:Nat} {L r:List UInt8} (h:su (sec s) fi co ep L) (hT:Cb s (fi+L.length/59) ep (L.drop (59*(L.length/59))++enc r) q)
 (a4:L.length+(r.length+4)<=59*co) (y:ep<4294967296) (a0:∀j,j<co->(sec s (fi+j)).length=64):
 ∃K,L.length<=K/\cT (sec q.1) ep co fi=(L++enc r).take K:=by
  obtain⟨m,hm,v,a,u⟩:=hT.ex;have hD:L.drop (59*(L.length/59))++enc r=(L++enc r).drop (59*(L.length/59)):=by rw[DI (by omega)]
  have X:(L++enc r).length=L.length+(r.length+4):=by rw[CU,cQ]
  rw[hD] at hm v a;rw[Da] at hm;have M:∀j,aK ((L++enc r).drop (59*(L.length/59))) j=aK (L++enc r) (L.length/59+j):=by
   intro j;unfold aK;rw[Eo,show 59*(L.length/59)+59*j=59*(L.length/59+j) by omega]
  rw[M] at a;obtain⟨J,hJ⟩:∃J,L.length/59+m=J:=⟨_,rfl⟩;rw[show fi+L.length/59+m=fi+J by omega,hJ] at a;have p:J<co:=by omega
  have n:∀j,j<J->sec q.1 (fi+j)=bq (aK (L++enc r) j) ep:=by
   intro j z;by_cases a5:j<L.length/59
   ·rw[u (fi+j) (.inl (by omega))];have Q:=h j (by omega);rw[if_pos (by omega)] at Q;rw[Q]
    congr 1
    unfold aK;rw[DI (by omega),DV (by rw[Da];omega)]
   have e:=v (j - L.length/59) (by omega);rw[M,show L.length/59+(j - L.length/59)=j by omega,show fi+L.length/59+(j - L.length/59)=fi+j by omega] at e;exact e
  have f:∀j,J<j->j<co->epo (sec q.1 (fi+j))≠ep:=by
   intro j z W;rw[u (fi+j) (.inr (by omega))];have Q:=h j W;rw[if_neg (by omega)] at Q;exact Q
  have E:(bq (aK (L++enc r) J) ep).length=64:=nt (dd _ _);have x:epo (bq (aK (L++enc r) J) ep)=ep:=kj (dd _ _) y;have hO:=a0 J p;have c:=h J p;generalize ht:s.bytes.toNat=t at*;have k:∀(K j:Nat),(59*(j+1)<=K\/(L++enc r).length<=K)->sec q.1 (fi+j)=bq (aK (L++enc r) j) ep->epo (sec q.1 (fi+j))=ep/\cnt (sec q.1 (fi+j))=(aK ((L++enc r).take K) j).length/\(sec q.1 (fi+j)).take (aK ((L++enc r).take K) j).length=aK ((L++enc r).take K) j:=by
   intro K j hK e;rw[tz _ _ _ hK,e];exact⟨kj (dd _ _) y,nu (dd _ _),lD (dd _ _)⟩
  by_cases S:epo (sec q.1 (fi+J))=ep/\60<=t
  ·have P:sec q.1 (fi+J)=bq (aK (L++enc r) J) ep:=by
    rw[a];exact zZ E hO x S.2 (by rw[<-a];exact S.1)
   refine⟨59*(J+1),by omega,mR ?_ (by rw[CY];omega)⟩;intro j z;have O:((L++enc r).take (59*(J+1))).length=min (59*(J+1)) (L++enc r).length:=CY;by_cases d:59*j<((L++enc r).take (59*(J+1))).length
   ·rw[if_pos d];refine k _ j (.inl (by omega)) ?_;rcases DR j J with b | b
    ·exact n j b
    obtain rfl:j=J:=by omega
    exact P
   rw[if_neg d];exact .inl (f j (by omega) z)
  by_cases w:epo (sec q.1 (fi+J))=ep
  ·have a6:t<60:=by
    rcases DR t 60 with D | D
    ·exact D
    exact absurd ⟨w,D⟩ S
   have o:epo (sec s (fi+J))=ep:=by
    rw[a,us E (by omega)] at w;exact w
   have d:59*J<L.length:=by
    by_cases F:59*J<L.length
    ·exact F
    rw[if_neg F] at c;exact absurd o c
   rw[if_pos d] at c;have a3:J=L.length/59:=by omega
   have hv:(aK L J).length=L.length%59:=by rw[gP];omega
   have hcut:aK ((L++enc r).take L.length) J=aK L J:=by rw[ET]
   refine⟨L.length,C9 _,mR ?_ (by rw[ET];omega)⟩;intro j z;rw[ET];by_cases N:59*j<L.length
   ·rw[if_pos N];rcases DR j J with b | b
    ·have:=k L.length j (.inl (by omega)) (n j b);rw[ET] at this;exact this
    obtain rfl:j=J:=by omega
    have A:((bq (aK (L++enc r) j) ep).take t).length=t:=by rw[CY,E];omega
    have g:∀i,t<=i->(sec q.1 (fi+j))[i]? =(sec s (fi+j))[i]?:=by
     intro i R;rw[a,Dv (by omega),A,DK,show t+(i - t)=i by omega]
    refine⟨w,?_,?_⟩
    ·unfold cnt;rw[Ec,g 59 (by omega),<-Ec,c];exact nu (dd _ _)
    apply Ee;intro i;have B:(bq (aK L j) ep).take (aK L j).length=aK L j:=lD (dd _ _);have C:(aK (L++enc r) j).take (aK L j).length=aK L j:=by
     unfold aK;rw[DI (by omega),Eu,Es (by rw[CY];omega)];rw[DV (by rw[CY];omega),CY,Da];rw[C6 (by rw[Da];omega),C6 (by rw[Da];omega)]
    by_cases R:i<(aK L j).length
    ·rw[Dx,if_pos R];by_cases T:i<t
     ·rw[a,DC (by omega),Dx,if_pos T];have e1:(bq (aK (L++enc r) j) ep)[i]? =(aK (L++enc r) j)[i]?:=by
       have D:(aK L j).length<=(aK (L++enc r) j).length:=by rw[gP,gP,X];omega
       unfold bq;rw[Dd,Dd,DC (by omega)]
      have a1:(aK L j)[i]? =(aK (L++enc r) j)[i]?:=by
       conv=>lhs;rw[<-C]
       rw[Dx,if_pos R]
      rw[e1,a1]
     have a2:(aK L j)[i]? =(bq (aK L j) ep)[i]?:=by
      conv=>lhs;rw[<-B]
      rw[Dx,if_pos R]
     rw[g i (by omega),c,a2]
    rw[D9 (by rw[CY];omega),D9 (by omega)]
   rw[if_neg N];left;exact f j (by omega) z
  refine⟨59*J,?_,mR ?_ (by rw[CY];omega)⟩
  ·rcases DR (59*J) L.length with F | F
   ·exfalso;rw[if_pos F] at c;have o:epo (sec s (fi+J))=ep:=by rw[c];exact kj (dd _ _) y
    rcases DR t 60 with D | D
    ·exact w (by rw[a,us E (by omega)];exact o)
    refine w ?_;rw[a];have H:epo ((bq (aK (L++enc r) J) ep).take t++(sec s (fi+J)).drop ((bq (aK (L++enc r) J) ep).take t).length)=ep:=by
     have Y:(bq (aK (L++enc r) J) ep).drop 60=(sec s (fi+J)).drop 60:=ur (by rw[Da,E]) (by rw[Da,hO]) (x.trans o.symm);have A:((bq (aK (L++enc r) J) ep).take t).length=min t 64:=by rw[CY,E]
     have e:(bq (aK (L++enc r) J) ep).take t++(sec s (fi+J)).drop ((bq (aK (L++enc r) J) ep).take t).length=bq (aK (L++enc r) J) ep:=by
      rw[A];have e2:(sec s (fi+J)).drop (min t 64)=(bq (aK (L++enc r) J) ep).drop (min t 64):=by
       have:=congrArg (fun l=>l.drop (min t 64 - 60)) Y;simp only[Eo] at this;rw[show 60+(min t 64 - 60)=min t 64 by omega] at this;exact this.symm
      rw[e2];rcases DR t 64 with h2 | h2
      ·rw[Es (by omega),Du]
      rw[C6 (by omega),DB (by omega),DA]
     rw[e];exact x
    exact H
   exact F
  intro j z;have O:((L++enc r).take (59*J)).length=min (59*J) (L++enc r).length:=CY;by_cases d:59*j<((L++enc r).take (59*J)).length
  ·rw[if_pos d];exact k _ j (.inl (by omega)) (n j (by omega))
  rw[if_neg d];left;rcases DR J j with b | b
  ·exact f j b z
  obtain rfl:j=J:=by omega
  exact w
theorem vm {s:St} {q:St×Int} {fi co ep:Nat} {rs:List (List UInt8)} {r:List UInt8} (h:su (sec s) fi co ep (ez rs)) (i:Cb s (fi+(ez rs).length/59) ep ((ez rs).drop (59*((ez rs).length/59))++enc r) q)
 (a:(ez rs).length+(r.length+4)<=59*co) (b:ep<4294967296) (d:∀j,j<co->(sec s (fi+j)).length=64) (c:∀x∈rs,x.length<=16777216) (k:r.length<=16777216):
 cg (cT (sec q.1) ep co fi)=rs\/cg (cT (sec q.1) ep co fi)=rs++[r]:=by
  obtain⟨K,g,e⟩:=vl h i a b d;rw[e,List.take_append,C6 g,fT rs _ c];rcases DR (K - (ez rs).length) (r.length+4) with f | f
  ·left;rw[sL r _ f (by omega),DA]
  right;rw[C6 (by rw[cQ];omega)];have:=nh r [] k;rw[DA] at this;rw[this,dg (by simp)]
end
end Wa
def mix (ts:List TS) (j:Nat):List TS:=ts.take j++(ts.drop j).map (fun t=>emp t.cols)
theorem z8 (ts:List TS) (j:Nat) (h:j<=ts.length):(mix ts j).length=ts.length:=by
 unfold mix;rw[CU,Df,CY,Da];omega
theorem BE {ts:List TS} {j:Nat} {t:TS} (h:ts[j]? =some t):(mix ts j)[j]? =some (emp t.cols):=by
 have a:=(CV.1 h).1;unfold mix;rw[Dv (by rw[CY];omega),CY,show j - min j ts.length=0 by omega,De,DK,Fg,h];rfl
theorem zY {ts:List TS} {j:Nat} {t:TS} (h:ts[j]? =some t):(mix ts j).set j t=mix ts (j+1):=by
 have a:=(CV.1 h).1;unfold mix;rw[EL _ _ (by rw[CY];omega),CY,show j - min j ts.length=0 by omega,Dq,h,DP a,(CV.1 h).2];simp
theorem wv {ts:List TS} {j:Nat} {t:TS} (h:ts[j]? =some t):aN (ts.drop j)=fP t++aN (ts.drop (j+1)):=by
 rw[DP (CV.1 h).1,(CV.1 h).2];rfl
def fM (w:World) (ts:List TS) (e:Ending) (w':World):Prop:=∃a F,e=.returned (.tuple #[.pointer (V a),I 0])/\Z (cu w' a ts F)/\Z (aa [] w w')/\Z (∀x∈F,w.heap.size<=x)
theorem rN (w:World) (A:Option Addr) (n c:Nat) (P:Nat->Prop) (W:List (List Value)) (cols:List Nat) (hS:dU w P A W cols) (hn:cols.length=n) (a9:n<=1000) (g o p h:Nat) (ts:List TS) (hc:ts.map (·.cols)=cols) (hk:∀t∈ts,TOk t)
 (Y:Bts w (some (U g o)) (aN ts)) (hl:(aN ts).length=p) (ac:p<=h) (a4:h<=9223372036854775807) (hg:g<w.heap.size):Calls Tryz.prog 30 #[.slice A n c,.slice (some (U g o)) p h] w (fM w ts):=by
  have H1:=bZ (ly w A n c P W cols hS hn a9);have a5:Z (cols.map emp=mix ts 0):=bZ (by unfold mix;rw[<-hc,List.map_map];simp);have f:Z (ts.length=n):=bZ (by rw[<-hn,<-hc,Df]);replace Y:=bZ Y;replace hl:=bZ hl;replace hk:=bZ hk;clear hS hn hc;go_enter Tryz.func30,Tryz.ntmps30;go_wp2_with (go_at_call 50;refine H1.o.mono ?_;rintro e w1 ⟨v,F,rfl,i,l,a0⟩;rw[a5.o] at i;obtain⟨sA,sc,ap,tA,tc,pf,b0,b1,D,_⟩:=i.o.out_;have B:=(aa.refl [] w1).alloc (.cells #[.slice (some (U g o)) p h,.bool false] 144);have x1:(w1.alloc (.cells #[.slice (some (U g o)) p h,.bool false] 144)).cell? (U v 1)=G tA n tc:=by rw[(D.keep B (by simp)).cell 1,z8 ts 0 (C3 _),f.o];rfl);have s:Z (w.heap.size<=w1.heap.size):=bZ l.o.size;have r:Z (RdS (w1.alloc (.cells #[.slice (some (U g o)) p h,.bool false] 144)) w1.heap.size g o p h (aN (ts.drop 0))):=bZ ⟨Blk.new w1 144 _,by rw[EE];exact Y.o.keep (l.o.trans B) (by simp),by rw[EE];exact hl.o,ac,by have:=s.o;omega,Dr hg (l.o.trans B).size⟩;have H:Z (cu (w1.alloc (.cells #[.slice (some (U g o)) p h,.bool false] 144)) v (mix ts 0) F):=bZ (i.o.keep B (fun y S=>by cases S));have O:Z (w1.heap.size∉F):=bZ (fun M=>by have:=i.o.lt _ M;omega);have K:Z (aa [] w (w1.alloc (.cells #[.slice (some (U g o)) p h,.bool false] 144))):=bZ (l.o.trans B);obtain⟨T,Q⟩:∃x,x=w1.heap.size:=⟨_,rfl⟩;rw[<-Q] at r O s ⊢;generalize w1.alloc (.cells #[.slice (some (U g o)) p h,.bool false] 144)=w2 at*;clear i l D B H1 Q;go_loopw [19] (fun u wr=>∃(j:Nat) (z:List Nat) (o' n' c':Nat),j<=n/\u=I (j:Int)/\c'<=9223372036854775807/\Z (cu wr v (mix ts j) z)/\Z (RdS wr T g o' n' c' (aN (ts.drop j)))/\Z (aa [] w wr)/\Z ((∀x∈z,w.heap.size<=x)/\T∉z)) (fun u _=>n - (intOf u).toNat)
  case atStart=>exact⟨0,F,o,p,h,C3 _,rfl,a4,H,r,K,bZ ⟨a0.o,O.o⟩⟩
  obtain⟨j,z,o',n',c',hj,rfl,a2,k,b,m,a⟩:=hrel;clear H r K;have y0:=b.o.blk.cell 0;have y1:=b.o.blk.cell 1;by_cases a6:j<n
  ·have ak:(j:Int)<(n:Int):=by omega
   have wj:IntKind.i64.wrap ((j:Int)+1)=(j:Int)+1:=C0 _ (by omega);obtain⟨t,R⟩:∃t,ts[j]? =some t:=⟨_,CT (by rw[f.o];exact a6)⟩;have E:=b;rw[wv R] at E;have Ha:=bZ (xB wr T g o' n' c' v (mix ts j) z j t _ k.o (BE R) (hk.o t (CW R)) E.o a2 a.o.2 (fun M=>by have:=a.o.1 g M;omega));have a7:=bZ (zY R);unfold ptr at Ha;clear R y0 y1;go_wp2_with (go_at_call 60;refine Ha.o.mono ?_;rintro e w3 ⟨X,o3,n3,c3,rfl,a3,J,a1,L,q⟩);have d:Z (cu w3 v (mix ts (j+1)) X/\aa [] w w3/\(∀x∈X,w.heap.size<=x)/\T∉X):=bZ (by
    have hs:=m.o.size;have an:=b.o.blk.lt;have hb:=s.o;refine⟨by have:=J.o;rwa [a7.o] at this,m.o.more L.o (fun y S=>.inr ?_),fun x hx=>?_,fun M=>?_⟩
    ·rcases Db.1 S with rfl | S
     ·exact hb
     exact a.o.1 y S
    ·rcases q.o x hx with C | C
     ·exact a.o.1 x C
     omega
    rcases q.o T M with C | C
    ·exact a.o.2 C
    omega)
   clear k b m a J L q;go_roundw
   case rel=>exact⟨j+1,X,o3,n3,c3,by omega,by go_num,a3,bZ d.o.1,a1,bZ d.o.2.1,bZ d.o.2.2⟩
   case measure=>simp[intOf];omega
  obtain rfl:j=n:=by omega
  have hd:ts.drop j=[]:=DB (by rw[f.o];exact C9 _);have N:mix ts j=ts:=by unfold mix;rw[hd,C6 (by rw[f.o];exact C9 _)];simp
  rw[hd] at b;rw[N] at k;have a8:0=n':=b.o.len;subst a8;have d:Z (fM w ts (.returned (.tuple #[.pointer (V v),I 0])) wr):=bZ ⟨v,z,rfl,k,m,bZ a.o.1⟩;clear k b m a hd N;go_wp2_with fail;go_ret2;exact d.o
end Go.Proofs.YtmlmfpikncogpaaGreat
