import Derived.Deep.CutBlock
import Derived.IntWalk
import Derived.Laws.BitsAllLaws
import Derived.Lib.AppendZeros
import Derived.Lib.SlBytesConst
import Derived.Test.YtmlmfpikncogpaaGreatL06
namespace Go.Proofs.YtmlmfpikncogpaaGreat
open Go.RowKit
set_option linter.unusedSimpArgs false
set_option linter.unusedVariables false
set_option maxRecDepth 100000
set_option maxHeartbeats 16000000
namespace Dk
theorem rY {s:St} {i:Int} (h:cKd s i=0):s.down=false/\0<=i/\i<s.n:=by
 unfold cKd at h;cases a:s.down<;>simp[a] at h
 exact⟨rfl,by omega,by omega⟩
theorem eG (s:St) (i:Nat) (b:List UInt8) (d:Bool) (x y:Int) (a:b.length=64) (h:i*64+64<=s.mem.length):
 sec { s with mem:=splice s.mem (64*i) b,down:=d,left:=x,writes:=y } i=b:=by
  simp only[sec,splice];rw[EJ 64 i,DI (by simp;omega),List.drop_take];simp only[Ez,EY,Dm];rw[DV (by omega),C6 (by omega)]
theorem df (s:St) (i j:Nat) (b:List UInt8) (d:Bool) (x y:Int) (e:b.length=64) (h:i*64+64<=s.mem.length) (a:i≠j):
 sec { s with mem:=splice s.mem (64*i) b,down:=d,left:=x,writes:=y } j=sec s j:=by
  simp only[sec,splice];apply Ee;intro k;simp only[Dx,DK]
  split
  ·rename_i hk;rcases Nat.lt_or_gt_of_ne a with c | c
   ·rw[Dv (by simp;omega),Dv (by simp;omega),DK]
    congr 1
    simp;omega
   rw[DC (by simp;omega),Dx,if_pos (by omega)]
  rfl
theorem Ay {s:St} {i:Int} (h:cKd s i=0):∃k:Nat,i=k/\k<s.n:=by
 obtain⟨_,a,b⟩:=rY h;exact⟨i.toNat,by omega,by omega⟩
theorem jd (w:World) (d j:Nat) (s:St) (i:Int) (A:Option Addr) (b:List UInt8) (n c:Nat) (u:b.length=n) (l:aZ w d j s)
 (r:Bts w A b) (q:b≠[]->∀a,A=some a->a.block≠d) (o:n<=c) (p:0<=s.writes) (v:s.writes<=1000000):
  Calls Tryz.prog 79 #[.pointer (V d),I i,.slice A n c] w fun e w'=>e=.returned (I (wr s i b).2)/\ 
   aZ w' d j (wr s i b).1/\aa [d,j] w w':=by
 subst u
 by_cases f:cKd s i=0
 ·obtain⟨k,rfl,t⟩:=Ay f;by_cases h:b.length=64
  ·by_cases g:s.left=1
   ·have e:wr s k b=(fail { s with mem:=splice s.mem (64*k) (b.take s.bytes.toNat) },15):=by simp[wr,f,h,g]
    rw[e];exact sx w d j s k A b c l f t r (q (by rintro rfl;cases h)) h g o
   have e:wr s k b=({ s with mem:=splice s.mem (64*k) b,left:=if 1<s.left then s.left - 1 else s.left,writes:=s.writes+1 },0):=by simp[wr,f,h,g]
   rw[e];exact wV w d j s k A b c l f t r (q (by rintro rfl;cases h)) h g p v
  have e:wr s k b=(s,1):=by simp[wr,f,h]
  rw[e];exact(vg w d j s k A b c l f h).mono fun _ _ ⟨g,m⟩=>⟨g,m▸l,m▸aa.refl _ _⟩
 ·have e:wr s i b=(s,cKd s i):=by simp[wr,f]
  rw[e];exact(vh w d j s i A b c l f).mono fun _ _ ⟨g,m⟩=>⟨g,m▸l,m▸aa.refl _ _⟩
theorem iu (s:St) (i:Nat) (b:List UInt8) (a:b.length<=64) (h:i*64+64<=s.mem.length):
 sec { s with mem:=splice s.mem (64*i) b } i=b++(sec s i).drop b.length:=by
  simp only[sec,splice];rw[EJ 64 i,DI (by simp;omega),List.drop_take];simp only[Ez,EY,Dm];rw[List.take_append,C6 a]
  congr 1
  rw[List.drop_take,Eo]
theorem dH (s:St) (i j:Nat) (b:List UInt8) (d:b.length<=64) (h:i*64+64<=s.mem.length) (a:i≠j):
 sec { s with mem:=splice s.mem (64*i) b } j=sec s j:=by
  simp only[sec,splice];apply Ee;intro k;simp only[Dx,DK]
  split
  ·rename_i hk;rcases Nat.lt_or_gt_of_ne a with c | c
   ·rw[Dv (by simp;omega),Dv (by simp;omega),DK]
    congr 1
    simp;omega
   rw[DC (by simp;omega),Dx,if_pos (by omega)]
  rfl
end Dk
namespace Sn
section
open Go.RowKit Dk
def pad (d:List UInt8):List UInt8:=d++List.replicate (64 - d.length) 0
theorem jg {d:List UInt8} (h:d.length<=64):(pad d).length=64:=by unfold pad;rw[CU,DG];omega
def sws (s:St) (i:Nat):Nat->List UInt8->St×Int
 | 0,d=>(s,0)
 | f+1,d=>if d=[] then (s,0) else if (wr s i (pad (d.take 64))).2=0 then sws (wr s i (pad (d.take 64))).1 (i+1) f (d.drop 64) else wr s i (pad (d.take 64))
theorem gX (s:St) (i f:Nat):sws s i f []=(s,0):=by
 cases f with
 | zero=>rfl
 | succ f=>show (if ([]:List UInt8)=[] then (s,0) else _)=_;rw[if_pos rfl]
theorem jK {s:St} {i f:Nat} {d:List UInt8} (a:d≠[]) (h:(wr s i (pad (d.take 64))).2=0):sws s i (f+1) d=sws (wr s i (pad (d.take 64))).1 (i+1) f (d.drop 64):=by
 show (if d=[] then (s,0) else if (wr s i (pad (d.take 64))).2=0 then _ else _)=_;rw[if_neg a,if_pos h]
theorem gY {s:St} {i f:Nat} {d:List UInt8} (a:d≠[]) (h:(wr s i (pad (d.take 64))).2≠0):sws s i (f+1) d=wr s i (pad (d.take 64)):=by
 show (if d=[] then (s,0) else if (wr s i (pad (d.take 64))).2=0 then _ else _)=_;rw[if_neg a,if_neg h]
def area (n:Nat):Nat:=(n - 3)/4
def aS (n a:Nat):Nat:=if a=0 then 3 else 3+area n
def root (s:St):Nat:=((sec s 0).getD 0 0).toNat
def hdr (ep:Nat) (b:List UInt8):List UInt8:=be 4 ep++be 4 b.length++be 8 (crc b)
def hEp (h:List UInt8):Nat:=val (h.take 4)
def hLen (h:List UInt8):Nat:=val ((h.drop 4).take 4)
def hSum (h:List UInt8):Nat:=val ((h.drop 8).take 8)
def bad (s:St):Int:=if s.down then 15 else if s.n<7\/65536<s.n then 1 else if 1<root s then 17 else 0
def bG (s:St) (ep:Nat) (b:List UInt8):St×Int:=
 if bad s≠0 then (s,bad s) else
 if ep<=hEp (sec s (1+root s)) then (s,1) else
 if 64*area s.n<b.length then (s,16) else
 if (sws s (aS s.n (1 - root s)) b.length b).2≠0 then sws s (aS s.n (1 - root s)) b.length b else
 if (wr (sws s (aS s.n (1 - root s)) b.length b).1 ((1+(1 - root s):Nat):Int) (pad (hdr ep b))).2≠0 then wr (sws s (aS s.n (1 - root s)) b.length b).1 ((1+(1 - root s):Nat):Int) (pad (hdr ep b)) else
 wr (wr (sws s (aS s.n (1 - root s)) b.length b).1 ((1+(1 - root s):Nat):Int) (pad (hdr ep b))).1 0 (pad [UInt8.ofNat (1 - root s)])
def cat (s:St):Nat->Nat->List UInt8
 | _,0=>[]
 | a,k+1=>sec s a++cat s (a+1) k
def dt (s:St):List UInt8×Nat×Int:=
 if bad s≠0 then ([],0,bad s) else
 if hEp (sec s (1+root s))=0 then ([],0,4) else
 if 64*area s.n<hLen (sec s (1+root s)) then ([],0,17) else
 if crc ((cat s (aS s.n (root s)) (area s.n)).take (hLen (sec s (1+root s))))≠hSum (sec s (1+root s)) then ([],0,17) else
 ((cat s (aS s.n (root s)) (area s.n)).take (hLen (sec s (1+root s))),hEp (sec s (1+root s)),0)
theorem de (s:St) (i:Int) (b:List UInt8) (h:0<=s.writes):0<=(wr s i b).1.writes/\(wr s i b).1.writes<=s.writes+1:=by
 unfold wr fail
 split
 ·dsimp only;omega
 split
 ·dsimp only;omega
 split
 ·dsimp only;omega
 dsimp only;omega
theorem tO {s:St} {i:Nat} {b:List UInt8} (c:s.down=false) (d:s.left≠1) (f:i<s.n) (a:b.length=64):
 wr s i b=({ s with mem:=splice s.mem (64*i) b,left:=if 1<s.left then s.left - 1 else s.left,writes:=s.writes+1 },0):=by
  have e:cKd s (i:Int)=0:=by unfold cKd;rw[c];simp;omega
  simp[wr,e,a,d]
theorem mn {s:St} {i:Nat} {b:List UInt8} (c:s.down=false) (d:s.left=1) (f:i<s.n) (a:b.length=64):
 wr s i b=(fail { s with mem:=splice s.mem (64*i) (b.take s.bytes.toNat) },15):=by
  have e:cKd s (i:Int)=0:=by unfold cKd;rw[c];simp;omega
  simp[wr,e,a,d]
theorem rO {l:List UInt8} {i x:Nat} {v:UInt8} (h:l[i]? =some v):eI x (l.take (i+1))=mC (eI x (l.take i)) v:=by
 have a:i<l.length:=(CV.1 h).1;have b:l[i]=v:=(CV.1 h).2;rw[ER a,oN,b];rfl
theorem iW {w:World} {g o:Nat} {l:List UInt8} (h:Bts w (some (U g o)) l) {i:Nat} {v:UInt8} (a:l[i]? =some v):w.cell? (U g (o+i))=some (.int .u8 (v.toNat:Nat)):=by
 rcases h with rfl | ⟨b,c,e,h⟩
 ·simp at a
 injection e with e;injection e with e1 e2;subst e1 e2;exact h i v a
theorem yG {r:Nat} (h:r<2^64):(18446744073709551615:Nat)^^^r=18446744073709551615 - r:=by
 have e:18446744073709551615 - r=2^64 - (r+1):=by omega
 rw[e,show (18446744073709551615:Nat)=2^64 - 1 from rfl];apply Nat.eq_of_testBit_eq;intro i;rw[Nat.testBit_xor,Nat.testBit_two_pow_sub_one,Nat.testBit_two_pow_sub_succ h];by_cases a:i<64
 ·simp[a]
 have:r.testBit i=false:=Nat.testBit_lt_two_pow (Dr h (E3 (by decide) (by omega)));simp[a,this]
theorem rF (r:Nat) (h:r<2^64):bits .xor .u64 IntKind.u64.max (r:Int)=((18446744073709551615 - r:Nat):Int):=by
 have a:IntKind.u64.max=((18446744073709551615:Nat):Int):=by decide
 rw[a,u64_xor_nat _ _ (by omega) (by omega),yG h]
theorem vQ:bits .xor .u64 IntKind.u64.max 0=((18446744073709551615:Nat):Int):=rF 0 (by decide)
theorem sB (w:World) (A:Option Addr) (l:List UInt8) (n c:Nat) (y:Bts w A l) (z:l.length=n) (hn:n<=1000000000):
 Calls Tryz.prog 92 #[.int .u64 0,.slice A n c] w fun e w'=>e=.returned (.int .u64 (crc l:Nat))/\w=w':=by
  replace y:=bZ y;replace z:=bZ z;have Y:=bZ vQ;go_enter Tryz.func92,Tryz.ntmps92;go_wp2_with fail;rw[Y.o];go_loopw [5,13] (fun K iv wr=>∃i:Nat,i<=n/\iv=I i/\K=.int .u64 (eI 18446744073709551615 (l.take i):Nat)/\w=wr) (fun _ iv _=>n - (intOf iv).toNat)
  case atStart=>exact⟨0,C3 _,rfl,rfl,rfl⟩
  obtain⟨i,hi,rfl,rfl,rfl⟩:=hrel;by_cases D:i<n
  ·obtain⟨v,t⟩:∃v,l[i]? =some v:=⟨l[i]'(by rw[z.o];exact D),CT _⟩;obtain⟨g,o,rfl⟩:∃g o,A=some (U g o):=by
    rcases y.o with h | ⟨g,o,h,_⟩
    ·rw[h] at t;simp at t
    exact⟨g,o,h⟩
   have O:=iW y.o t;have f:=rO (x:=18446744073709551615) t;have N:=lK (l.take i) (x:=18446744073709551615) (by decide);have E:=v.toNat_lt;obtain⟨R,M⟩:∃R,eI 18446744073709551615 (l.take i)=R:=⟨_,rfl⟩;rw[M] at f N ⊢;obtain⟨a,B⟩:∃a,v.toNat=a:=⟨_,rfl⟩;rw[B] at O E;have hx:bits .xor .u64 (R:Int) (a:Int)=((R^^^a:Nat):Int):=u64_xor_nat R a (by omega) (by omega);have F:R^^^a<2^64:=Nat.xor_lt_two_pow N (by omega);have C:(i:Int)<(n:Int):=by omega
   have Q:(0:Int)<=(i:Int):=by omega
   have hw:IntKind.u64.wrap (a:Int)=a:=EZ _ (by omega);have W:(a:Int)%18446744073709551616=a:=by omega
   have m:Z (rP 8 (R^^^a)=eI 18446744073709551615 (l.take (i+1))):=bZ (by rw[f];unfold mC;rw[B]);clear f t M B;go_wp2_with fail;go_loopw [5,21] (fun K J wr=>∃(j x:Nat),j<=8/\J=I j/\K=.int .u64 (x:Nat)/\x<2^64/\Z (rP (8 - j) x=rP 8 (R^^^a))/\w=wr) (fun _ J _=>8 - (intOf J).toNat)
   case atStart=>exact⟨0,R^^^a,C3 _,rfl,rfl,F,bZ rfl,rfl⟩
   obtain⟨j,x,hj,rfl,rfl,u,q,rfl⟩:=hrel;by_cases S:j<8
   ·have T:(j:Int)<8:=by omega
    have p:bits .and .u64 (x:Int) 1=((x%2:Nat):Int):=by
     have:=u64_and_nat x 1 (by omega) (by omega);rw[Nat.and_one_is_mod] at this;exact this
    have k:Z (rP (8 - (j+1)) (crcBit x)=rP 8 (R^^^a)):=bZ (by
     rw[<-q.o,show 8 - j=(8 - (j+1))+1 by omega];rfl)
    have s:=pu u;by_cases d:x%2=1
    ·rw[d] at p;have b:crcBit x=(x/2)^^^14514072000185962306:=by unfold crcBit;rw[if_pos d]
     have X:bits .xor .u64 ((x:Int)/2) 14514072000185962306=((crcBit x:Nat):Int):=by
      rw[b];exact u64_xor_nat (x/2) 14514072000185962306 (by omega) (by omega)
     replace b:=bZ b;replace d:=bZ d;go_wp2_with fail;go_roundw
     case rel=>exact⟨j+1,crcBit x,by omega,by go_num,rfl,s,k,trivial⟩
     case measure=>simp[intOf];omega
    have r:x%2=0:=by omega
    rw[r] at p;have b:crcBit x=x/2:=by unfold crcBit;rw[if_neg d]
    replace b:=bZ b;replace r:=bZ r;clear d;go_wp2_with fail;go_roundw
    case rel=>exact⟨j+1,x/2,by omega,by go_num,congrArg (Value.int .u64) (by omega),by omega,bZ (by rw[<-b.o];exact k.o),trivial⟩
    case measure=>simp[intOf];omega
   obtain rfl:j=8:=by omega
   have L:=q.o;have H:x=eI 18446744073709551615 (l.take (i+1)):=by rw[<-m.o,<-L];rfl
   subst H;clear L q;go_wp2_with fail;go_roundw
   case rel=>exact⟨i+1,by omega,by go_num,rfl,trivial⟩
   case measure=>simp[intOf];omega
  obtain rfl:i=n:=by omega
  have C:¬(i:Int)<(i:Int):=by omega
  have P:=rF (eI 18446744073709551615 (l.take i)) (lK _ (by decide));go_wp2_with fail;go_ret;refine⟨?_,rfl⟩;rw[C6 (by rw[z.o];omega)];rfl
theorem tV (w:World) (A:Option Addr) (l:List UInt8) (n c:Nat) (a:Bts w A l) (b:l.length=n) (d:n<=1000000000):
 Calls Tryz.prog 58 #[.slice A n c] w fun e w'=>e=.returned (.int .u64 (crc l:Nat))/\w=w':=by
  have H:=bZ (sB w A l n c a b d);clear a b;go_enter Tryz.func58,Tryz.ntmps58;go_wp2_with fail;refine H.o.mono ?_;rintro e w1 ⟨rfl,rfl⟩;clear H;go_wp2_with fail;go_ret;exact⟨rfl,rfl⟩
def bP (n:Nat):Array Value:=#[I 0,I 1,I 2,I 3,I (3+(area n:Nat)),I (area n:Nat),I (3+2*(area n:Nat)),I ((n:Int) - (3+2*(area n:Nat)))]
def bN:Array Value:=#[I 0,I 0,I 0,I 0,I 0,I 0,I 0,I 0]
theorem uS (n:Nat):2*area n+3<=n\/n<3:=by unfold area;omega
theorem ff (w:World) (n:Nat) (c:7<=n) (f:n<=65536):
 Calls Tryz.prog 27 #[I n] w fun e w'=>e=.returned (.tuple #[.agg (bP n),I 0])/\aa [] w w':=by
  have b:IntKind.i64.wrap ((n:Int) - 3)=(n:Int) - 3:=C0 _ (by omega);have d:((n:Int) - 3)/4=(area n:Int):=by unfold area;omega
  have a:area n<=65536:=by unfold area;omega
  go_enter Tryz.func27,Tryz.ntmps27;go_wp2_with fail;refine bodyPost_ret (v:=.tuple #[.agg (bP n),I 0]) (by simp[results,Tryz.results27,go_sem,bP]) rfl ⟨rfl,((aa.refl _ _).alloc _).alloc _⟩
theorem nU (w:World) (n:Int) (h:n<7\/65536<n):
 Calls Tryz.prog 27 #[I n] w fun e w'=>e=.returned (.tuple #[.agg bN,I 1])/\aa [] w w':=by
  by_cases b:n<7
  ·clear h;go_enter Tryz.func27,Tryz.ntmps27;go_wp2_with fail;exact bodyPost_ret (v:=.tuple #[.agg bN,I 1]) (by simp[results,Tryz.results27,go_sem,bN]) rfl ⟨rfl,(aa.refl _ _).alloc _⟩
  have a:65536<n:=by omega
  clear h;go_enter Tryz.func27,Tryz.ntmps27;go_wp2_with fail;exact bodyPost_ret (v:=.tuple #[.agg bN,I 1]) (by simp[results,Tryz.results27,go_sem,bN]) rfl ⟨rfl,(aa.refl _ _).alloc _⟩
theorem nj (w:World) (n:Nat) (d:7<=n) (g:n<=65536):
 Calls Tryz.prog 52 #[I n] w fun e w'=>e=.returned (.tuple #[.agg (bP n),I 0])/\aa [] w w':=by
  have c:IntKind.i64.wrap ((n:Int) - 3)=(n:Int) - 3:=C0 _ (by omega);have f:((n:Int) - 3)/4=(area n:Int):=by unfold area;omega
  have a:area n<=65536:=by unfold area;omega
  go_enter Tryz.func52,Tryz.ntmps52;go_wp2_with fail;have b:(n:Int) - (3+2*(area n:Int))=(n:Int) - 3 - 2*(area n:Int):=by omega
  exact bodyPost_ret (v:=.tuple #[.agg (bP n),I 0]) (by simp[results,Tryz.results52,go_sem,bP,b]) rfl ⟨rfl,(aa.refl _ _).alloc _⟩
theorem qZ (w:World) (n:Int) (h:n<7\/65536<n):
 Calls Tryz.prog 52 #[I n] w fun e w'=>e=.returned (.tuple #[.agg bN,I 1])/\aa [] w w':=by
  by_cases b:n<7
  ·clear h;go_enter Tryz.func52,Tryz.ntmps52;go_wp2_with fail;exact bodyPost_ret (v:=.tuple #[.agg bN,I 1]) (by simp[results,Tryz.results52,go_sem,bN]) rfl ⟨rfl,(aa.refl _ _).alloc _⟩
  have a:65536<n:=by omega
  clear h;go_enter Tryz.func52,Tryz.ntmps52;go_wp2_with fail;exact bodyPost_ret (v:=.tuple #[.agg bN,I 1]) (by simp[results,Tryz.results52,go_sem,bN]) rfl ⟨rfl,(aa.refl _ _).alloc _⟩
def capOf (n:Int):Nat:=if n<7\/65536<n then 0 else 64*area n.toNat
theorem AG (w:World) (n:Int):Calls Tryz.prog 42 #[I n] w fun e w'=>e=.returned (I (capOf n:Nat))/\aa [] w w':=by
 by_cases h:n<7\/65536<n
 ·have H:=bZ (nU w n h);have a:capOf n=0:=by unfold capOf;rw[if_pos h]
  rw[a];clear h a;unfold bN at H;go_enter Tryz.func42,Tryz.ntmps42;go_wp2_with fail;refine H.o.mono ?_;rintro e w1 ⟨rfl,b⟩;clear H;go_wp2_with fail;go_ret;exact⟨rfl,b.alloc _⟩
 obtain⟨m,rfl⟩:∃m:Nat,n=m:=⟨n.toNat,by omega⟩;have a:capOf (m:Int)=64*area m:=by unfold capOf;rw[if_neg h];simp
 rw[a];have H:=bZ (ff w m (by omega) (by omega));have c:area m<=65536:=by unfold area;omega
 have d:IntKind.i64.wrap ((area m:Int)*64)=(area m:Int)*64:=C0 _ (by omega);clear h a;unfold bP at H;go_enter Tryz.func42,Tryz.ntmps42;go_wp2_with fail;refine H.o.mono ?_;rintro e w1 ⟨rfl,b⟩;clear H;go_wp2_with fail;go_ret;exact⟨congrArg (fun z=>Ending.returned (I z)) (by omega),b.alloc _⟩
theorem xE (w:World) (n:Int):Calls Tryz.prog 24 #[I n] w fun e w'=>e=.returned (I (capOf n:Nat))/\aa [] w w':=by
 by_cases h:n<7\/65536<n
 ·have H:=bZ (qZ w n h);have a:capOf n=0:=by unfold capOf;rw[if_pos h]
  rw[a];clear h a;unfold bN at H;go_enter Tryz.func24,Tryz.ntmps24;go_wp2_with fail;refine H.o.mono ?_;rintro e w1 ⟨rfl,b⟩;clear H;go_wp2_with fail;go_ret;exact⟨rfl,b.alloc _⟩
 obtain⟨m,rfl⟩:∃m:Nat,n=m:=⟨n.toNat,by omega⟩;have a:capOf (m:Int)=64*area m:=by unfold capOf;rw[if_neg h];simp
 rw[a];have H:=bZ (nj w m (by omega) (by omega));have c:area m<=65536:=by unfold area;omega
 have d:IntKind.i64.wrap (64*(area m:Int))=64*(area m:Int):=C0 _ (by omega);clear h a;unfold bP at H;go_enter Tryz.func24,Tryz.ntmps24;go_wp2_with fail;refine H.o.mono ?_;rintro e w1 ⟨rfl,b⟩;clear H;go_wp2_with fail;go_ret;exact⟨congrArg (fun z=>Ending.returned (I z)) (by omega),b.alloc _⟩
theorem mN {l:List UInt8} {i:Nat} {v:UInt8} (h:l[i]? =some v):val (l.take (i+1))=256*val (l.take i)+v.toNat:=by
 have a:i<l.length:=(CV.1 h).1;have b:l[i]=v:=(CV.1 h).2;rw[ER a,j1,b]
theorem zU {i:Nat} (h:i<=7):(256:Nat)^i<=72057594037927936:=Dc (E3 (by decide) h) (by decide)
theorem dy (w:World) (A:Option Addr) (l:List UInt8) (n c:Nat) (j:Bts w A l) (d:l.length=n) (E:n<=8):
 Calls Tryz.prog 90 #[.slice A n c] w fun e w'=>e=.returned (.int .u64 (val l:Nat))/\w=w':=by
  replace j:=bZ j;replace d:=bZ d;go_enter Tryz.func90,Tryz.ntmps90;go_wp2_with fail;go_loopw [3,8] (fun C iv wr=>∃i:Nat,i<=n/\iv=I i/\C=.int .u64 (val (l.take i):Nat)/\w=wr) (fun _ iv _=>n - (intOf iv).toNat)
  case atStart=>exact⟨0,C3 _,rfl,rfl,rfl⟩
  obtain⟨i,D,rfl,rfl,rfl⟩:=hrel;by_cases m:i<n
  ·obtain⟨v,f⟩:∃v,l[i]? =some v:=⟨l[i]'(by rw[d.o];exact m),CT _⟩;obtain⟨g,o,rfl⟩:∃g o,A=some (U g o):=by
    rcases j.o with h | ⟨g,o,h,_⟩
    ·rw[h] at f;simp at f
    exact⟨g,o,h⟩
   have u:=iW j.o f;have a:=mN f;have s:=jI i (l.take i) (by rw[CY,d.o];omega);have z:=zU (i:=i) (by omega);have p:=v.toNat_lt;obtain⟨R,q⟩:∃R,val (l.take i)=R:=⟨_,rfl⟩;rw[q] at a s ⊢;obtain⟨b,r⟩:∃b,v.toNat=b:=⟨_,rfl⟩;rw[r] at u p a;have t:R<72057594037927936:=by omega
   have k:(i:Int)<(n:Int):=by omega
   have x:(0:Int)<=(i:Int):=by omega
   have F:IntKind.u64.wrap (b:Int)=b:=EZ _ (by omega);have B:(b:Int)%18446744073709551616=b:=by omega
   have y:bits .or .u64 ((R:Int)*256) (b:Int)=((val (l.take (i+1)):Nat):Int):=by
    rw[a,show (R:Int)*256=((R*256:Nat):Int) by omega,u64_or_nat _ _ (by omega) (by omega),nat_join 8 _ _ (by omega) (by omega)]
    congr 1
    omega
   replace a:=bZ a;clear f q r z s;go_wp2_with fail;go_roundw
   case rel=>exact⟨i+1,by omega,by go_num,rfl,trivial⟩
   case measure=>simp[intOf];omega
  obtain rfl:i=n:=by omega
  have k:¬(i:Int)<(i:Int):=by omega
  go_wp2_with fail;go_ret;refine⟨?_,rfl⟩;rw[C6 (by rw[d.o];omega)];rfl
end
section
open Go.RowKit Dk
theorem pD (m:Nat):Builtin.zeroCells (Value.int .u8 0).cells m=((List.replicate m (0:UInt8)).map bv).toArray:=by
 apply Array.ext';apply Ee;intro j;by_cases a:j<m
 ·simp[Builtin.zeroCells,Value.cells,a,bv,Nat.mod_one]
 simp[Builtin.zeroCells,Value.cells,a]
theorem lz {P:Program} {w:World} (t W ty base:Nat) (e:TypeId) (L:P.underlying t=some (.slice e)) (r:P.underlying W=some (.int .i64)) (c:(P.info? e).map (fun i=>(i.zero,i.size,i.bytes))=some (some (.int .u8 0),1,1))
 (v:Value) (l:List UInt8) (p:w.ownsRow base e 1 v l.length (l.map bv)) (m:Nat) (Y:l.length+m<=140737488355328) (n:base<=w.heap.size):
 ∃N c' w',(Builtin.append_ #[t,W] ty #[v,I m]).run P w=.ok (.slice N (l.length+m) c') w'/\w'.ownsRow base e 1 (.slice N (l.length+m) c') (l.length+m) ((l++List.replicate m 0).map bv)/\
  w.grownBy w' v.ownBlock/\((Value.slice N (l.length+m) c').ownBlock=v.ownBlock\/(Value.slice N (l.length+m) c').ownBlock=some w.heap.size):=by
 cases A:P.info? e with
 | none=>simp[A] at c
 | some i=>
  simp only[A,EM,Option.some.injEq,Prod.mk.injEq] at c;obtain⟨O,q,o⟩:=c;have hw:IntKind.i64.wrap (m:Int)=m:=C0 _ (by omega);have z:¬((m:Int)<0):=by omega
  have x:¬(281474976710656<(m:Int)):=by omega
  have y:((l++List.replicate m 0).map bv).length=(l.length+m)*1:=by simp
  have F:=pD m;have M:IntKind.i64.wrap 0=0:=C0 _ (by omega);rcases p.2 with ⟨rfl,h0⟩ | ⟨g,a,s,rfl,Q,X,T,R,a0,E⟩
  ·obtain rfl:=Dh h0;by_cases K:m=0
   ·subst K;refine⟨none,0,w,?_,EX w base e 1,⟨rfl,rfl,rfl,C9 _,fun _ _ _=>rfl⟩,.inl rfl⟩;simp[Builtin.append_,run_underlying L,run_underlying r,sizeOf,typeInfo,A,asInt,asIntOf,M,Builtin.lenOf,Builtin.firstCells,loadCells,loadCellsFrom,o,q]
   have hr:=Lib.run_append_nil_zeros (P:=P) w t W ty e i (.int .u8 0) .i64 .i64 L r A O m (by omega) (by omega) (by omega) (by rw[o];omega);simp only[D6,Dl,Dm] at*;have B:=grownCap_ge w m 0 e;refine⟨_,_,_,hr,⟨by simp,.inr ⟨w.heap.size,_,_,rfl,n,heap_alloc_new w.drew _,B,grownCap_le_maxLen w m 0 e (by unfold maxLen;omega),?_,?_⟩⟩,⟨rfl,rfl,rfl,by simp,fun k J _=>Fq w.drew _ k J⟩,.inr rfl⟩
   ·simp only[Array.size_append,size_zeroCells];simp[Value.cells];omega
   rw[F];simp
  have a2:∀w',(zeroValue e).run P w'=.ok (.int .u8 0) w':=fun w'=>by simp[zeroValue,typeInfo,A,O]
  by_cases K:m=0
  ·subst K;refine⟨V g,a,w,?_,by simpa using p,⟨rfl,rfl,rfl,C9 _,fun _ _ _=>rfl⟩,.inl rfl⟩;simp[Builtin.append_,run_underlying L,run_underlying r,sizeOf,typeInfo,A,asInt,asIntOf,M,o,q,T,storeCells]
  have a1:¬(m*i.size=0):=by rw[q];omega
  by_cases d:l.length+m<=a
  ·have D:=run_storeCells_at P g (l.length*1) e ((List.replicate m (0:UInt8)).map bv) 0 s w X (by simp;omega) (by intro u hu;obtain⟨b,_,rfl⟩:=Dt.1 hu;rfl);simp only[Fg] at D;refine⟨V g,a,w.setRow g (s.toList.take (l.length*1)++(List.replicate m (0:UInt8)).map bv++s.toList.drop (l.length*1+((List.replicate m (0:UInt8)).map bv).length)).toArray,?_,⟨by simp,.inr ⟨g,a,_,rfl,Q,setRow_heap w g s _ e _ X,d,R,?_,?_⟩⟩,⟨rfl,rfl,rfl,by simp,fun k _ J=>setRow_other w g k _ (fun h=>J (by simp[Value.ownBlock,h]))⟩,Ey rfl⟩
   ·simp[Builtin.append_,run_underlying L,run_underlying r,sizeOf,typeInfo,A,asInt,asIntOf,hw,z,x,o,q,K,d,zeroValue,O,F,Addr.add_lit];simp only[List.map_replicate,EU,Dd,DG] at D;rw[D];rfl
   ·simp only[Ew,CU,CY,Da,DO,Df,DG];omega
   rw[E,<-y,<-DX];exact ET
  have H:¬(9223372036854775807<((l.length:Int)+(m:Int))):=by omega
  have f:¬(281474976710656<Builtin.nextslicecap (l.length+m) a*1):=by
   have:=growslice_fits (bytes:=1) (need:=l.length+m) (old:=a) (by omega) (by omega);omega
  have C:∀j u,(l.map bv)[j]? =some u->w.drew.cell? (((U g 0):Addr).add j)=some u:=p.cells (g:=g) rfl;have S:=run_firstCells_some (P:=P) w.drew 1 l.length (U g 0) l.length a (l.map bv) (by simp) C;have B:=grownCap_ge w (l.length+m) a e;refine⟨V w.heap.size,grownCap w (l.length+m) a e,w.drew.alloc (.cells ((l.map bv).toArray++((List.replicate m (0:UInt8)).map bv).toArray++Builtin.zeroCells (Value.int .u8 0).cells (grownCap w (l.length+m) a e - (l.length+m))) e),?_,⟨by simp,.inr ⟨w.heap.size,_,_,rfl,n,heap_alloc_new w.drew _,B,grownCap_le_maxLen w (l.length+m) a e (by unfold maxLen;omega),?_,?_⟩⟩,⟨rfl,rfl,rfl,by simp,fun k J _=>Fq w.drew _ k J⟩,.inr rfl⟩
  ·simp[Builtin.append_,run_underlying L,run_underlying r,sizeOf,typeInfo,A,asInt,asIntOf,hw,z,x,o,q,K,d,zeroValue,O,F,H,f,Question.forced,S,newRow,grownCap];intro h;exact absurd h (by rw[EU] at f;exact f)
  ·simp only[Array.size_append,size_zeroCells,Ew,Df,DG];simp[Value.cells];omega
  rw[<-y,DX];simp only[Array.toList_append,Dd];rw[<-Dd];exact ET
theorem _root_.Go.Proofs.YtmlmfpikncogpaaGreat.aa.over {X:List Nat} {a w w':World} {base:Nat} (h:aa X a w) (c:a.heap.size<=base) (k:Below base w w'):aa X a w':=
 ⟨k.os.trans h.os,k.tape.trans h.tape,k.output.trans h.output,Dc h.size k.size,fun g b d=>(k.block g (Dr b c)).trans (h.block g b d)⟩
theorem fZ {base:Nat} {w w1 w2:World} (h:Below base w w1) (k:Below base w1 w2):Below base w w2:=
 ⟨k.os.trans h.os,k.tape.trans h.tape,k.output.trans h.output,Dc h.size k.size,fun g a=>(k.block g a).trans (h.block g a)⟩
theorem r7 {base:Nat} {w w1:World} (h:aa [] w w1) (a:base<=w.heap.size):Below base w w1:=
 ⟨h.os,h.tape,h.output,h.size,fun g b=>h.block g (by omega) (by simp)⟩
theorem f7 {base:Nat} {e:TypeId} {size n:Nat} {v:Value} {c:List Value} {w w':World} (b:w.ownsRow base e size v n c) (d:base<=w.heap.size) (a:w.grownBy w' v.ownBlock):Below base w w':=
 ⟨a.os,a.tape,a.output,a.size,fun g h=>a.block g (by omega) (fun e=>by have:=(eN b e.symm).1;omega)⟩
theorem nD {w:World} {base a:Nat} {e:TypeId} {size n:Nat} {v:Value} {d:List Value} (h:w.ownsRow a e size v n d) (i:base<=a):w.ownsRow base e size v n d:=by
 refine⟨h.1,?_⟩;rcases h.2 with h | ⟨g,b,c,k,f,j⟩
 ·exact .inl h
 exact .inr ⟨g,b,c,k,Dc i f,j⟩
theorem nC {w:World} {base g:Nat} {l:List UInt8} (h:Blk w g 5 (l.map bv).toArray) (a:base<=g) (b:l.length<=maxLen):w.ownsRow base 5 1 (.slice (V g) l.length l.length) l.length (l.map bv):=
 ⟨by simp,.inr ⟨g,l.length,_,rfl,a,h,C9 _,b,by simp,by simp[C6]⟩⟩
theorem oe:∀(k x j:Nat),j<k->(be k x)[j]? =some (UInt8.ofNat (x/256^(k - 1 - j)))
 | 0,x,j,h=>absurd h (Fr _)
 | k+1,x,j,h=>by
  show (be k (x/256)++[UInt8.ofNat x])[j]? =_;by_cases a:j<k
  ·rw[DC (by rw[bX];exact a),oe k (x/256) j a,Fh,<-Nat.pow_succ',show k+1 - 1 - j=k - 1 - j+1 by omega]
  obtain rfl:j=k:=by omega
  rw[Dv (by rw[bX];exact C9 _),bX,Ez,show j+1 - 1 - j=0 by omega];simp
theorem AJ {k x j:Nat} (h:j<k):(be k x).take (j+1)=(be k x).take j++[UInt8.ofNat (x/256^(k - 1 - j))]:=by
 have a:=oe k x j h;have b:j<(be k x).length:=by rw[bX];exact h
 rw[ER b];rw[CT b] at a;rw[Option.some.inj a]
theorem nZ (x i:Nat):(x:Int)/2^(8*i)%256=((UInt8.ofNat (x/256^i)).toNat:Int):=by
 have h:(2:Int)^(8*i)=((256^i:Nat):Int):=by
  rw[Int.pow_mul,Int.natCast_pow];rfl
 rw[h,Eg,<-Int.natCast_ediv];omega
theorem info5:(Tryz.prog.info? 5).map (fun i=>(i.zero,i.size,i.bytes))=some (some (.int .u8 0),1,1):=by kernel_rfl
def ve (base:Nat) (w:World) (l:List UInt8) (n:Nat) (e:Ending) (w':World):Prop:=
 ∃A c,e=.returned (.slice A n c)/\w'.ownsRow base 5 1 (.slice A n c) n (l.map bv)/\Below base w w'
theorem kh (w:World) (base:Nat) (v:Value) (l:List UInt8) (n x k:Nat) (B:l.length=n) (e:w.ownsRow base 5 1 v n (l.map bv)) (S:base<=w.heap.size) (hk:k<=8) (hx:x<2^64) (hl:n<=1000):
 Calls Tryz.prog 89 #[v,.int .u64 x,I k] w (ve base w (l++be k x) (n+k)):=by
  have t:=bZ info5;replace B:=bZ B;replace e:=bZ e;go_enter Tryz.func89,Tryz.ntmps89;go_wp2_with fail;go_loopw [0,7] (fun K iv wr=>∃(j:Nat),j<=k/\iv=I ((k:Int) - 1 - (j:Int))/\Z (wr.ownsRow base 5 1 K (n+j) ((l++(be k x).take j).map bv))/\Z (Below base w wr)) (fun _ iv _=>(intOf iv+1).toNat)
  case atStart=>exact⟨0,C3 _,by simp,bZ (by simpa using e.o),bZ (Below.refl _ _)⟩
  obtain⟨j,Y,rfl,E,f⟩:=hrel;by_cases z:j<k
  ·have O:(0:Int)<=(k:Int) - 1 - (j:Int):=by omega
   have a:=AJ (x:=x) z;obtain⟨i,T⟩:∃i:Nat,k - 1 - j=i:=⟨_,rfl⟩;have d:(k:Int) - 1 - (j:Int)=(i:Int):=by omega
   rw[T] at a;have X:IntKind.i64.wrap (8*(i:Int))=8*(i:Int):=C0 _ (by omega);have N:IntKind.i64.wrap ((i:Int) - 1)=(i:Int) - 1:=C0 _ (by omega);rw[d];replace d:=bZ d;have m:=nZ x i;have h:Z ((l++(be k x).take j).length=n+j):=bZ (by rw[CU,CY,bX,B.o];omega);have s:Z (l++(be k x).take j++[UInt8.ofNat (x/256^i)]=l++(be k x).take (j+1)):=bZ (by rw[a,Dd]);have C:Z (Bts (wr.alloc (.cells #[.int .u8 ((x:Int)/2^(8*i)%256)] 5)) (V wr.heap.size) [UInt8.ofNat (x/256^i)]):=bZ (.inr ⟨_,0,rfl,fun F v q=>by
    rw[(Blk.new wr 5 _).cell];rcases F with _ | F
    ·simp only[D5,Option.some.injEq] at q;subst q;simp only[Dl];show some _=some (bv _);unfold bv;rw[<-m];rfl
    simp at q⟩)
   have p:=bZ (E.o.alloc (.cells #[.int .u8 ((x:Int)/2^(8*i)%256)] 5));have y:=bZ (fZ f.o (r7 ((aa.refl [] wr).alloc (.cells #[.int .u8 ((x:Int)/2^(8*i)%256)] 5)) (Dc S f.o.size)));have b:base<=wr.heap.size+1:=by have:=f.o.size;omega
   replace a:=bZ a;replace m:=bZ m;go_wp2_with (at_builtin;refine ai rfl (.tmp 14) (.tmp 20) 79 rfl base 5 Tryz.underlying79 t.o u0 (l++(be k x).take j) [UInt8.ofNat (x/256^i)] rfl ?_ _ 1 1 rfl rfl C.o ?_ ?_ ?_;(rw[h.o];exact p.o);(rw[h.o,DE];omega);(simpa using b);(rw[h.o,s.o]);intro W c' w1 H D J;have u:=bZ (fZ y.o (f7 p.o (by simpa using b) D.o));clear D J);go_roundw
   case rel=>exact⟨j+1,by omega,congrArg (Value.int .i64) (by have:=d.o;omega),H,u⟩
   have:=d.o;simp[intOf]<;>omega
  obtain rfl:j=k:=by omega
  have O:¬(0:Int)<=(j:Int) - 1 - (j:Int):=by omega
  go_wp2_with fail;go_ret;have r:=E.o;rw[C6 (by rw[bX];exact C9 _)] at r;obtain⟨A,c,R⟩:∃A c,u0=.slice A (n+j) c:=by
   rcases r.2 with ⟨P,Q⟩ | ⟨g,L,M,q,_⟩
   ·exact⟨none,0,by rw[P,Q]⟩
   exact⟨_,_,q⟩
  subst R;exact⟨A,c,rfl,r,f.o⟩
theorem ib {w:World} {base n:Nat} {v:Value} {l:List Value} (h:w.ownsRow base 5 1 v n l):∃A c,v=.slice A n c/\n<=c/\c<=maxLen:=by
 rcases h.2 with ⟨rfl,d⟩ | ⟨g,a,b,i,j,k,e,f,m,o⟩
 ·exact⟨none,0,by rw[d],by omega,by simp[maxLen]⟩
 exact⟨_,a,i,e,f⟩
theorem jM (w:World) (base:Nat) (v:Value) (l:List UInt8) (n:Nat) (i:l.length=n) (a:w.ownsRow base 5 1 v n (l.map bv)) (h:base<=w.heap.size) (m:n<=64):
 Calls Tryz.prog 88 #[v] w (ve base w (pad l) 64):=by
  obtain⟨A,c,rfl,_,_⟩:=ib a;obtain⟨k,c',w',d,b,f,g⟩:=lz (P:=Tryz.prog) 79 3 79 base 5 Tryz.underlying79 Tryz.underlying3 info5 (.slice A n c) l (by rw[i];exact a) (64 - n) (by omega) h;have q:IntKind.i64.wrap (64 - (n:Int))=64 - (n:Int):=C0 _ (by omega);rw[show ((64 - n:Nat):Int)=64 - (n:Int) by omega] at d;have e:l.length+(64 - n)=64:=by omega
  rw[e] at d b g;have j:l++List.replicate (64 - n) 0=pad l:=by unfold pad;rw[i]
  rw[j] at b;have p:=bZ (f7 a h f);replace d:=bZ d;replace b:=bZ b;clear f g j e a;go_enter Tryz.func88,Tryz.ntmps88;go_wp2_with (at_builtin;refine Lib.wpList_append_run _ rfl (.tmp 3) (.tmp 6) 79 3 rfl (.slice A n c) (I (64 - (n:Int))) rfl rfl _ _ d.o ?_);go_ret;exact⟨k,c',rfl,b.o,p.o⟩
def lenOf:Value->Nat
 | .slice _ n _=>n
 | _=>0
end
end Sn
end Go.Proofs.YtmlmfpikncogpaaGreat
