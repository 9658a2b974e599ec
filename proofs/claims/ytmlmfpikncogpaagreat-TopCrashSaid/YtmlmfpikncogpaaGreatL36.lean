import Derived.Test.YtmlmfpikncogpaaGreatL07
namespace Go.Proofs.YtmlmfpikncogpaaGreat
open Go.RowKit
set_option linter.unusedSimpArgs false
set_option linter.unusedVariables false
set_option maxRecDepth 100000
set_option maxHeartbeats 16000000
namespace Sn
section
open Go.RowKit Dk
def bF:Array Value:=#[.int .u64 0,.int .u64 0,.int .u64 0]
def bg (h:List UInt8):Array Value:=#[.int .u64 (hEp h:Nat),.int .u64 (hLen h:Nat),.int .u64 (hSum h:Nat)]
theorem fm {s:St} (h:s.mem.length=64*s.n) {i:Nat} (a:i<s.n):(sec s i).length=64:=by
 unfold sec;rw[CY,Da];omega
theorem ej {w:World} {g:Nat} {t:TypeId} {l:List UInt8} (h:Blk w g t (l.map bv).toArray):Bts w (V g) l:=.inr ⟨g,0,rfl,fun j v a=>by
 rw[h.cell,Dl];simp[a]⟩
theorem iV {w:World} {g o k:Nat} {l:List UInt8} (h:Bts w (some (U g o)) l):Bts w (some (U g (o+k))) (l.drop k):=by
 rcases h with rfl | ⟨b,c,e,h⟩
 ·exact .inl (by simp)
 injection e with e;injection e with e1 e2;subst e1 e2;refine .inr ⟨_,_,rfl,fun j v a=>?_⟩;rw[DK] at a;rw[Ej];exact h _ _ a
theorem pS {s:St} (h:s.mem.length=64*s.n) {i:Nat} (a:i<s.n):(sec s i)[0]? =some ((sec s i).getD 0 0):=by
 have:=fm h a;rw[Ec,CT (by omega)];rfl
theorem rm (w:World) (q y:Nat) (s:St) (g:aZ w q y s) (p:bad s≠0):
 Calls Tryz.prog 56 #[.pointer (V q)] w fun e w'=>e=.returned (.tuple #[.agg bN,I 0,.agg bF,I (bad s)])/\aa [] w w':=by
  have S:=g.n;have A:=g.len;by_cases l:s.down=true
  ·have a:bad s=15:=by unfold bad;rw[if_pos l]
   have f:=bZ (fun w' k=>eb w' q y s (g.keep (w:=w) (w':=w') (X:=[]) k (by simp) (by simp)));rw[l] at f;rw[a];clear p a g l;go_enter Tryz.func56,Tryz.ntmps56;go_wp2_with fail;refine(f.o _ (((aa.refl [] w).alloc _).alloc _)).mono ?_;rintro e w1 ⟨rfl,rfl⟩;clear f;go_wp2_with fail;refine bodyPost_ret (v:=.tuple #[.agg bN,I 0,.agg bF,I 15]) (by simp[results,Tryz.results56,go_sem,bN,bF]) rfl ⟨rfl,((aa.refl _ _).alloc _).alloc _⟩
  have h:s.down=false:=by simpa using l
  have f:=bZ (fun w' k=>eb w' q y s (g.keep (w:=w) (w':=w') (X:=[]) k (by simp) (by simp)));rw[h] at f;have D:=bZ (fun w' k=>cU w' q y s (g.keep (w:=w) (w':=w') (X:=[]) k (by simp) (by simp)));by_cases O:s.n<7
  ·have a:bad s=1:=by unfold bad;rw[if_neg l,if_pos (.inl O)]
   rw[a];have m:=bZ (fun w'=>nU w' s.n (.inl (by omega)));unfold bN at m;clear p a g l h;generalize s.n=n at*;go_enter Tryz.func56,Tryz.ntmps56;go_wp2_with fail;refine(f.o _ (((aa.refl [] w).alloc _).alloc _)).mono ?_;rintro e w1 ⟨rfl,rfl⟩;clear f;go_wp2_with fail;refine(D.o _ (((aa.refl [] w).alloc _).alloc _)).mono ?_;rintro e w1 ⟨rfl,rfl⟩;clear D;go_wp2_with fail;have c:Blk ((w.alloc (.cells bN 85)).alloc (.cells bF 134)) w.heap.size 85 bN:=(Blk.new w 85 bN).alloc _;have d:Blk ((w.alloc (.cells bN 85)).alloc (.cells bF 134)) (w.heap.size+1) 134 bF:=by
    have:=Blk.new (w.alloc (.cells bN 85)) 134 bF;simpa using this
   have u:aa [] w ((w.alloc (.cells bN 85)).alloc (.cells bF 134)):=((aa.refl _ _).alloc _).alloc _;refine(m.o _).mono ?_;rintro e w2 ⟨rfl,b⟩;have B:=fun o=>((c.keep b (by simp)).alloc o).cell;have F:=fun o=>((c.keep b (by simp)).alloc o).frozen;have C:=fun o=>((d.keep b (by simp)).alloc o).cell;have H:=fun o=>((d.keep b (by simp)).alloc o).frozen;have x:=bZ (u.trans b);clear m b u c d;unfold bN at B;unfold bF at C;go_wp2_with fail;refine bodyPost_ret (v:=.tuple #[.agg bN,I 0,.agg bF,I 1]) (by simp[results,Tryz.results56,go_sem,bN,bF,B,F,C,H]) rfl ⟨rfl,?_⟩
   iterate 11 refine aa.setCell ?_ (Or.inr (by simp)) _
   first | exact x.o | exact x.o.alloc _
  have a:bad s=17/\1<root s:=by
   unfold bad at p ⊢;rw[if_neg l,if_neg (by omega)] at p ⊢;by_cases E:1<root s
   ·rw[if_pos E];exact⟨rfl,E⟩
   rw[if_neg E] at p;exact absurd rfl p
  rw[a.1];have E:=a.2;have m:=bZ (fun w'=>ff w' s.n (by omega) (by omega));unfold bP at m;have K:=bZ (fun w' k=>fU w' q y s 0 (g.keep (w:=w) (w':=w') (X:=[]) k (by simp) (by simp)) (by unfold cKd;rw[h];simp;omega) (by omega));have J:=pS A (i:=0) (by omega);have j:((sec s 0).getD 0 0).toNat=root s:=rfl;generalize z:sec s 0=b0 at*;generalize root s=r at*;replace J:=bZ J;replace z:=bZ z;replace j:=bZ j;have P:(1:Int)<(r:Int):=by omega
  clear p a g l h;generalize s.n=n at*;go_enter Tryz.func56,Tryz.ntmps56;go_wp2_with fail;refine(f.o _ (((aa.refl [] w).alloc _).alloc _)).mono ?_;rintro e w1 ⟨rfl,rfl⟩;clear f;go_wp2_with fail;refine(D.o _ (((aa.refl [] w).alloc _).alloc _)).mono ?_;rintro e w1 ⟨rfl,rfl⟩;clear D;go_wp2_with fail;have c:Blk ((w.alloc (.cells bN 85)).alloc (.cells bF 134)) w.heap.size 85 bN:=(Blk.new w 85 bN).alloc _;have d:Blk ((w.alloc (.cells bN 85)).alloc (.cells bF 134)) (w.heap.size+1) 134 bF:=by
   have:=Blk.new (w.alloc (.cells bN 85)) 134 bF;simpa using this
  have u:aa [] w ((w.alloc (.cells bN 85)).alloc (.cells bF 134)):=((aa.refl _ _).alloc _).alloc _;refine(m.o _).mono ?_;rintro e w2 ⟨rfl,b⟩;replace c:=bZ (c.keep b (by simp));replace d:=bZ (d.keep b (by simp));have x:=bZ (u.trans b);clear m b u;go_wp2_with fail;refine(K.o _ (x.o.alloc _)).mono ?_;rintro e w3 ⟨rfl,M,t⟩;have L:=bZ ((x.o.alloc _).trans t);have B:=((c.o.alloc _).keep t (by simp)).cell;have F:=((c.o.alloc _).keep t (by simp)).frozen;have C:=((d.o.alloc _).keep t (by simp)).cell;have H:=((d.o.alloc _).keep t (by simp)).frozen;have N:=iW (ej M) J.o;rw[j.o,Dl,show (w2.alloc _).heap.size=w2.heap.size+1 by simp] at N;unfold bN at B;unfold bF at C;clear K M t c d;have Q:r<256:=by rw[<-j.o];exact UInt8.toNat_lt _
  have R:IntKind.i64.wrap (r:Int)=r:=C0 _ (by omega);go_wp2_with fail;refine bodyPost_ret (v:=.tuple #[.agg bN,I 0,.agg bF,I 17]) (by simp[results,Tryz.results56,go_sem,bN,bF,B,F,C,H]) rfl ⟨rfl,?_⟩
  iterate 11 refine aa.setCell ?_ (Or.inr (by simp)) _
  first | exact L.o | exact L.o.alloc _
theorem xU (w:World) (E bs:Nat) (s:St) (F:aZ w E bs s) (hd:s.down=false) (h7:7<=s.n) (hr:root s=0):
 Calls Tryz.prog 56 #[.pointer (V E)] w fun e w'=>e=.returned (.tuple #[.agg (bP s.n),I 0,.agg (bg (sec s 1)),I 0])/\aa [] w w':=by
  have hn:=F.n;have C:=F.len;have HF:=bZ (fun w' k=>eb w' E bs s (F.keep (w:=w) (w':=w') (X:=[]) k (by simp) (by simp)));rw[hd] at HF;have c:=bZ (fun w' k=>cU w' E bs s (F.keep (w:=w) (w':=w') (X:=[]) k (by simp) (by simp)));have HV:=bZ (fun w'=>ff w' s.n h7 hn);unfold bP at HV;have HR:=bZ (fun w' k=>fU w' E bs s 0 (F.keep (w:=w) (w':=w') (X:=[]) k (by simp) (by simp)) (by unfold cKd;rw[hd];simp;omega) (by omega));have a0:Z (∀w':World,aa [] w w'->Calls Tryz.prog 57 #[.pointer (V E),I 1] w' _):=bZ (fun w' k=>fU w' E bs s 1 (F.keep (w:=w) (w':=w') (X:=[]) k (by simp) (by simp)) (by unfold cKd;rw[hd];simp;omega) (by omega));have hg:=pS C (i:=0) (by omega);have M:((sec s 0).getD 0 0).toNat=0:=hr;have J:Z ((sec s 1).length=64):=bZ (fm C (by omega));generalize a1:sec s 0=b0 at*;generalize hH:sec s 1=H at*;replace hg:=bZ hg;replace a1:=bZ a1;replace hH:=bZ hH;replace M:=bZ M;clear F hd hr;generalize s.n=n at*;go_enter Tryz.func56,Tryz.ntmps56;go_wp2_with fail;refine(HF.o _ (((aa.refl [] w).alloc _).alloc _)).mono ?_;rintro e w1 ⟨rfl,rfl⟩;clear HF;go_wp2_with fail;refine(c.o _ (((aa.refl [] w).alloc _).alloc _)).mono ?_;rintro e w1 ⟨rfl,rfl⟩;clear c;go_wp2_with fail;have m:Blk ((w.alloc (.cells bN 85)).alloc (.cells bF 134)) w.heap.size 85 bN:=(Blk.new w 85 bN).alloc _;have f:Blk ((w.alloc (.cells bN 85)).alloc (.cells bF 134)) (w.heap.size+1) 134 bF:=by
   have:=Blk.new (w.alloc (.cells bN 85)) 134 bF;simpa using this
  have K0:aa [] w ((w.alloc (.cells bN 85)).alloc (.cells bF 134)):=((aa.refl _ _).alloc _).alloc _;refine(HV.o _).mono ?_;rintro e w2 ⟨rfl,k2⟩;have z:=bZ (by have h:=k2.size;simp at h;omega:w.heap.size+1<w2.heap.size);replace m:=bZ (m.keep k2 (by simp));replace f:=bZ (f.keep k2 (by simp));have K2:=bZ (K0.trans k2);clear HV k2 K0;go_wp2_with fail;refine(HR.o _ (K2.o.alloc _)).mono ?_;rintro e w3 ⟨rfl,hB,k3⟩;have K3:=bZ ((K2.o.alloc _).trans k3);replace m:=bZ ((m.o.alloc _).keep k3 (by simp));replace f:=bZ ((f.o.alloc _).keep k3 (by simp));have d:=bZ ((Blk.new w2 85 _).keep k3 (by simp));have q6:=d.o.cell;have c0:=iW (ej hB) hg.o;rw[M.o,Dl,show (w2.alloc _).heap.size=w2.heap.size+1 by simp] at c0;have a3:w2.heap.size<w3.heap.size:=d.o.lt;clear HR hB k3;go_wp2_with fail;refine(a0.o _ K3.o).mono ?_;rintro e g ⟨rfl,hB,O⟩;have K4:=bZ (K3.o.trans O);have r:=bZ (Dr a3 O.size);replace m:=bZ (m.o.keep O (by simp));replace f:=bZ (f.o.keep O (by simp));replace d:=bZ (d.o.keep O (by simp));have A:=ej hB;have a2:=A.take 4;have q:=(iV (k:=4) A).take 4;have L:=(iV (k:=8) A).take 8;rw[Dl] at q L;have L1:(H.take 4).length=4:=by rw[CY,J.o];rfl
  have L2:((H.drop 4).take 4).length=4:=by rw[CY,Da,J.o];rfl
  have L3:((H.drop 8).take 8).length=8:=by rw[CY,Da,J.o];rfl
  have G1:=bZ (fun w' (k:aa [] g w')=>dy w' _ _ 4 64 (a2.keep k (by simp)) L1 (by decide));have G2:=bZ (fun w' (k:aa [] g w')=>dy w' _ _ 4 60 (q.keep k (by simp)) L2 (by decide));have G3:=bZ (fun w' (k:aa [] g w')=>dy w' _ _ 8 56 (L.keep k (by simp)) L3 (by decide));have a4:val (H.take 4)=hEp H:=rfl;have a5:val ((H.drop 4).take 4)=hLen H:=rfl;have a6:val ((H.drop 8).take 8)=hSum H:=rfl;rw[a4] at G1;rw[a5] at G2;rw[a6] at G3;have P:=bZ (G1.o _ (aa.refl [] g).drew);have Q:=bZ (G2.o _ (aa.refl [] g).drew);have R:=bZ (G3.o _ (aa.refl [] g).drew);have T:=bZ (G1.o _ (((aa.refl [] g).alloc (.cells #[.int .u64 0,.int .u64 0,.int .u64 0] 134)).drew));have W:=bZ (G2.o _ (((aa.refl [] g).alloc (.cells #[.int .u64 0,.int .u64 0,.int .u64 0] 134)).drew));have Y:=bZ (G3.o _ (((aa.refl [] g).alloc (.cells #[.int .u64 0,.int .u64 0,.int .u64 0] 134)).drew));clear a0 hB O q6 c0 A a2 q L L1 L2 L3 a4 a5 a6 G1 G2 G3;go_upto_region 15 with fail;go_cut [11] from 61 to 70 (fun a8 wx=>a8=.pointer (V g.heap.size)/\wx=(g.alloc (.cells (bg H) 134)).drew)
  case first=>
   go_region_with (go_at_call 90;first
    | (with_reducible refine P.o.mono ?_;rintro e w' ⟨rfl,rfl⟩)
    | (with_reducible refine Q.o.mono ?_;rintro e w' ⟨rfl,rfl⟩)
    | (with_reducible refine R.o.mono ?_;rintro e w' ⟨rfl,rfl⟩)
    | (with_reducible refine T.o.mono ?_;rintro e w' ⟨rfl,rfl⟩)
    | (with_reducible refine W.o.mono ?_;rintro e w' ⟨rfl,rfl⟩)
    | (with_reducible refine Y.o.mono ?_;rintro e w' ⟨rfl,rfl⟩))
   all_goals
    go_wp2_with fail;go_meet;exact⟨rfl,rfl⟩
  obtain⟨rfl,l⟩:=hcut;clear P Q R T W Y;have B:Z (aa [] w wc):=bZ (by rw[l];exact(K4.o.alloc (.cells (bg H) 134)).drew);replace m:Z (Blk wc w.heap.size 85 bN):=bZ (by rw[l];exact(m.o.alloc (.cells (bg H) 134)).drew);replace f:Z (Blk wc (w.heap.size+1) 134 bF):=bZ (by rw[l];exact(f.o.alloc (.cells (bg H) 134)).drew);replace d:Z (Blk wc w2.heap.size 85 (bP n)):=bZ (by rw[l];exact(d.o.alloc (.cells (bg H) 134)).drew);have a:Z (Blk wc g.heap.size 134 (bg H)):=bZ (by rw[l];exact(Blk.new g 134 (bg H)).drew);clear l;have n1:Z (w2.heap.size≠w.heap.size):=bZ (by have:=z.o;omega);have n2:Z (g.heap.size≠w.heap.size):=bZ (by have:=r.o;have:=z.o;omega);have n3:Z (w2.heap.size≠w.heap.size+1):=bZ (by have:=z.o;omega);have n4:Z (g.heap.size≠w.heap.size+1):=bZ (by have:=r.o;have:=z.o;omega);go_wp2_with fail;refine eo (S:=(fun w'=>(∀i,w'.cell? (U w2.heap.size i)=(bP n)[i]?)/\(∀i,w'.cell? (U g.heap.size i)=(bg H)[i]?))) (n:=7) (by kernel_rfl) ?_;replace m:=bZ m.o.drew;replace f:=bZ f.o.drew;replace d:=bZ d.o.drew;replace a:=bZ a.o.drew;replace B:=bZ B.o.drew;have c:=EG d.o.cell a.o.cell;unfold bP bg at c;unfold bP bg;refine az (i:=1) (v:=?_) (by kernel_rfl) rfl (by kernel_rfl) (by kernel_rfl) (by kernel_rfl) (fun _ _ _ h=>h) c (Ey ⟨by rfl,?_⟩) ?_;rotate_left
  ·(intro w p;obtain⟨z6,a7⟩:=p;go_simp;try with_reducible rfl)
  try simp only[PT,Y1,Y2,Y3]
  refine az (i:=0) (v:=?_) (by kernel_rfl) rfl (by kernel_rfl) (by kernel_rfl) (by kernel_rfl) (fun _ _ _ h=>h) c (Ey ⟨by rfl,?_⟩) ?_;rotate_left
  ·(intro w p;obtain⟨z6,a7⟩:=p;go_simp;try with_reducible rfl)
  try simp only[PT,Y1,Y2,Y3]
  refine mM (i:=2) (j:=3) rfl rfl (by kernel_rfl) (fun K b=>?_) (fun K b=>?_)
  ·dsimp only[Y1,Y2,Y3];go_simp;refine b _ _ (.inr c) ?_;clear b K
   try simp only[PT,Y1,Y2,Y3]
   refine aM (i:=3) rfl (by kernel_rfl) (fun K b=>?_);dsimp only[Y1,Y2,Y3];rw[if_pos (by rfl)];refine bJ 85 (.tmp 2) (.tmp 71) (by rfl) w.heap.size (by rfl) 85 bN.toList (bP n).toList (by rfl) m.o (by kernel_rfl) (by rfl) (by intro v t;simp[bP] at t;rcases t with rfl | rfl | rfl | rfl | rfl | rfl | rfl | rfl<;>rfl) ?_;intro w6 D u;have f:=bZ (f.o.keep u (by simp));have d:=bZ (d.o.keep u (by simp;exact n1.o));have a:=bZ (a.o.keep u (by simp;exact n2.o));have B:=bZ (B.o.nil.trans u);have c:=EG d.o.cell a.o.cell;unfold bP bg at c;clear u;refine b _ _ (.inr c) ?_;clear b K
   try simp only[PT,Y1,Y2,Y3]
   refine aM (i:=4) rfl (by kernel_rfl) (fun K b=>?_);dsimp only[Y1,Y2,Y3];go_simp;refine b _ _ (.inr c) ?_;clear b K
   try simp only[PT,Y1,Y2,Y3]
   refine aM (i:=5) rfl (by kernel_rfl) (fun K b=>?_);dsimp only[Y1,Y2,Y3];rw[if_pos (by rfl)];refine bJ 134 (.tmp 4) (.tmp 73) (by rfl) (w.heap.size+1) (by rfl) 134 bF.toList (bg H).toList (by rfl) f.o (by kernel_rfl) (by rfl) (by intro v t;simp[bg] at t;rcases t with rfl | rfl | rfl<;>rfl) ?_;intro w7 C4 x;have D:=bZ (D.o.keep x (by simp));have d:=bZ (d.o.keep x (by simp;exact n3.o));have a:=bZ (a.o.keep x (by simp;exact n4.o));have K7:=bZ ((B.o.mono (fun y N=>.inr (by simp at N;omega)):aa [] w _).nil.trans x);have c:=EG d.o.cell a.o.cell;clear x;refine b _ _ (.inr c) ?_;clear b K
   try simp only[PT,Y1,Y2,Y3]
   refine aM (i:=6) rfl (by kernel_rfl) (fun K b=>?_);dsimp only[Y1,Y2,Y3];go_simp;refine b _ _ (.inr c) ?_;clear b K
   try simp only[PT,Y1,Y2,Y3]
   refine cS (by kernel_rfl) ?_ _;go_wp2_with fail;have q2:=D.o.cell;have q4:=C4.o.cell;have KF:aa [] w w7:=K7.o.mono (fun y N=>.inr (by simp at N;omega));exact bodyPost_ret (v:=.tuple #[.agg (bP n),I 0,.agg (bg H),I 0]) (by simp[results,Tryz.results56,go_sem,bP,bg,q2,q4]) rfl ⟨rfl,KF⟩
  dsimp only[Y1,Y2,Y3];rw[if_pos (by rfl)];refine bJ 85 (.tmp 2) (.tmp 71) (by rfl) w.heap.size (by rfl) 85 bN.toList (bP n).toList (by rfl) m.o (by kernel_rfl) (by rfl) (by intro v t;simp[bP] at t;rcases t with rfl | rfl | rfl | rfl | rfl | rfl | rfl | rfl<;>rfl) ?_;intro w6 D u;have f:=bZ (f.o.keep u (by simp));have d:=bZ (d.o.keep u (by simp;exact n1.o));have a:=bZ (a.o.keep u (by simp;exact n2.o));have B:=bZ (B.o.nil.trans u);have c:=EG d.o.cell a.o.cell;unfold bP bg at c;clear u;refine b _ _ (.inr c) ?_;clear b K
  try simp only[PT,Y1,Y2,Y3]
  refine az (i:=4) (v:=?_) (by kernel_rfl) rfl (by kernel_rfl) (by kernel_rfl) (by kernel_rfl) (fun _ _ _ h=>h) c (Ey ⟨by rfl,?_⟩) ?_;rotate_left
  ·(intro w p;obtain⟨z6,a7⟩:=p;go_simp;try with_reducible rfl)
  try simp only[PT,Y1,Y2,Y3]
  refine aM (i:=2) rfl (by kernel_rfl) (fun K b=>?_);dsimp only[Y1,Y2,Y3];go_simp;refine b _ _ (.inr c) ?_;clear b K
  try simp only[PT,Y1,Y2,Y3]
  refine aM (i:=5) rfl (by kernel_rfl) (fun K b=>?_);dsimp only[Y1,Y2,Y3];rw[if_pos (by rfl)];refine bJ 134 (.tmp 4) (.tmp 73) (by rfl) (w.heap.size+1) (by rfl) 134 bF.toList (bg H).toList (by rfl) f.o (by kernel_rfl) (by rfl) (by intro v t;simp[bg] at t;rcases t with rfl | rfl | rfl<;>rfl) ?_;intro w7 C4 x;have D:=bZ (D.o.keep x (by simp));have d:=bZ (d.o.keep x (by simp;exact n3.o));have a:=bZ (a.o.keep x (by simp;exact n4.o));have K7:=bZ ((B.o.mono (fun y N=>.inr (by simp at N;omega)):aa [] w _).nil.trans x);have c:=EG d.o.cell a.o.cell;clear x;refine b _ _ (.inr c) ?_;clear b K
  try simp only[PT,Y1,Y2,Y3]
  refine aM (i:=6) rfl (by kernel_rfl) (fun K b=>?_);dsimp only[Y1,Y2,Y3];go_simp;refine b _ _ (.inr c) ?_;clear b K
  try simp only[PT,Y1,Y2,Y3]
  refine cS (by kernel_rfl) ?_ _;go_wp2_with fail;have q2:=D.o.cell;have q4:=C4.o.cell;have KF:aa [] w w7:=K7.o.mono (fun y N=>.inr (by simp at N;omega));exact bodyPost_ret (v:=.tuple #[.agg (bP n),I 0,.agg (bg H),I 0]) (by simp[results,Tryz.results56,go_sem,bP,bg,q2,q4]) rfl ⟨rfl,KF⟩
theorem xT (w:World) (E bs:Nat) (s:St) (F:aZ w E bs s) (hd:s.down=false) (h7:7<=s.n) (hr:root s=1):
 Calls Tryz.prog 56 #[.pointer (V E)] w fun e w'=>e=.returned (.tuple #[.agg (bP s.n),I 1,.agg (bg (sec s 2)),I 0])/\aa [] w w':=by
  have hn:=F.n;have C:=F.len;have HF:=bZ (fun w' k=>eb w' E bs s (F.keep (w:=w) (w':=w') (X:=[]) k (by simp) (by simp)));rw[hd] at HF;have c:=bZ (fun w' k=>cU w' E bs s (F.keep (w:=w) (w':=w') (X:=[]) k (by simp) (by simp)));have HV:=bZ (fun w'=>ff w' s.n h7 hn);unfold bP at HV;have HR:=bZ (fun w' k=>fU w' E bs s 0 (F.keep (w:=w) (w':=w') (X:=[]) k (by simp) (by simp)) (by unfold cKd;rw[hd];simp;omega) (by omega));have a0:Z (∀w':World,aa [] w w'->Calls Tryz.prog 57 #[.pointer (V E),I 2] w' _):=bZ (fun w' k=>fU w' E bs s 2 (F.keep (w:=w) (w':=w') (X:=[]) k (by simp) (by simp)) (by unfold cKd;rw[hd];simp;omega) (by omega));have hg:=pS C (i:=0) (by omega);have M:((sec s 0).getD 0 0).toNat=1:=hr;have J:Z ((sec s 2).length=64):=bZ (fm C (by omega));generalize a1:sec s 0=b0 at*;generalize hH:sec s 2=H at*;replace hg:=bZ hg;replace a1:=bZ a1;replace hH:=bZ hH;replace M:=bZ M;clear F hd hr;generalize s.n=n at*;go_enter Tryz.func56,Tryz.ntmps56;go_wp2_with fail;refine(HF.o _ (((aa.refl [] w).alloc _).alloc _)).mono ?_;rintro e w1 ⟨rfl,rfl⟩;clear HF;go_wp2_with fail;refine(c.o _ (((aa.refl [] w).alloc _).alloc _)).mono ?_;rintro e w1 ⟨rfl,rfl⟩;clear c;go_wp2_with fail;have m:Blk ((w.alloc (.cells bN 85)).alloc (.cells bF 134)) w.heap.size 85 bN:=(Blk.new w 85 bN).alloc _;have f:Blk ((w.alloc (.cells bN 85)).alloc (.cells bF 134)) (w.heap.size+1) 134 bF:=by
   have:=Blk.new (w.alloc (.cells bN 85)) 134 bF;simpa using this
  have K0:aa [] w ((w.alloc (.cells bN 85)).alloc (.cells bF 134)):=((aa.refl _ _).alloc _).alloc _;refine(HV.o _).mono ?_;rintro e w2 ⟨rfl,k2⟩;have z:=bZ (by have h:=k2.size;simp at h;omega:w.heap.size+1<w2.heap.size);replace m:=bZ (m.keep k2 (by simp));replace f:=bZ (f.keep k2 (by simp));have K2:=bZ (K0.trans k2);clear HV k2 K0;go_wp2_with fail;refine(HR.o _ (K2.o.alloc _)).mono ?_;rintro e w3 ⟨rfl,hB,k3⟩;have K3:=bZ ((K2.o.alloc _).trans k3);replace m:=bZ ((m.o.alloc _).keep k3 (by simp));replace f:=bZ ((f.o.alloc _).keep k3 (by simp));have d:=bZ ((Blk.new w2 85 _).keep k3 (by simp));have q6:=d.o.cell;have c0:=iW (ej hB) hg.o;rw[M.o,Dl,show (w2.alloc _).heap.size=w2.heap.size+1 by simp] at c0;have a3:w2.heap.size<w3.heap.size:=d.o.lt;clear HR hB k3;go_wp2_with fail;refine(a0.o _ K3.o).mono ?_;rintro e g ⟨rfl,hB,O⟩;have K4:=bZ (K3.o.trans O);have r:=bZ (Dr a3 O.size);replace m:=bZ (m.o.keep O (by simp));replace f:=bZ (f.o.keep O (by simp));replace d:=bZ (d.o.keep O (by simp));have A:=ej hB;have a2:=A.take 4;have q:=(iV (k:=4) A).take 4;have L:=(iV (k:=8) A).take 8;rw[Dl] at q L;have L1:(H.take 4).length=4:=by rw[CY,J.o];rfl
  have L2:((H.drop 4).take 4).length=4:=by rw[CY,Da,J.o];rfl
  have L3:((H.drop 8).take 8).length=8:=by rw[CY,Da,J.o];rfl
  have G1:=bZ (fun w' (k:aa [] g w')=>dy w' _ _ 4 64 (a2.keep k (by simp)) L1 (by decide));have G2:=bZ (fun w' (k:aa [] g w')=>dy w' _ _ 4 60 (q.keep k (by simp)) L2 (by decide));have G3:=bZ (fun w' (k:aa [] g w')=>dy w' _ _ 8 56 (L.keep k (by simp)) L3 (by decide));have a4:val (H.take 4)=hEp H:=rfl;have a5:val ((H.drop 4).take 4)=hLen H:=rfl;have a6:val ((H.drop 8).take 8)=hSum H:=rfl;rw[a4] at G1;rw[a5] at G2;rw[a6] at G3;have P:=bZ (G1.o _ (aa.refl [] g).drew);have Q:=bZ (G2.o _ (aa.refl [] g).drew);have R:=bZ (G3.o _ (aa.refl [] g).drew);have T:=bZ (G1.o _ (((aa.refl [] g).alloc (.cells #[.int .u64 0,.int .u64 0,.int .u64 0] 134)).drew));have W:=bZ (G2.o _ (((aa.refl [] g).alloc (.cells #[.int .u64 0,.int .u64 0,.int .u64 0] 134)).drew));have Y:=bZ (G3.o _ (((aa.refl [] g).alloc (.cells #[.int .u64 0,.int .u64 0,.int .u64 0] 134)).drew));clear a0 hB O q6 c0 A a2 q L L1 L2 L3 a4 a5 a6 G1 G2 G3;go_upto_region 15 with fail;go_cut [11] from 61 to 70 (fun a8 wx=>a8=.pointer (V g.heap.size)/\wx=(g.alloc (.cells (bg H) 134)).drew)
  case first=>
   go_region_with (go_at_call 90;first
    | (with_reducible refine P.o.mono ?_;rintro e w' ⟨rfl,rfl⟩)
    | (with_reducible refine Q.o.mono ?_;rintro e w' ⟨rfl,rfl⟩)
    | (with_reducible refine R.o.mono ?_;rintro e w' ⟨rfl,rfl⟩)
    | (with_reducible refine T.o.mono ?_;rintro e w' ⟨rfl,rfl⟩)
    | (with_reducible refine W.o.mono ?_;rintro e w' ⟨rfl,rfl⟩)
    | (with_reducible refine Y.o.mono ?_;rintro e w' ⟨rfl,rfl⟩))
   all_goals
    go_wp2_with fail;go_meet;exact⟨rfl,rfl⟩
  obtain⟨rfl,l⟩:=hcut;clear P Q R T W Y;have B:Z (aa [] w wc):=bZ (by rw[l];exact(K4.o.alloc (.cells (bg H) 134)).drew);replace m:Z (Blk wc w.heap.size 85 bN):=bZ (by rw[l];exact(m.o.alloc (.cells (bg H) 134)).drew);replace f:Z (Blk wc (w.heap.size+1) 134 bF):=bZ (by rw[l];exact(f.o.alloc (.cells (bg H) 134)).drew);replace d:Z (Blk wc w2.heap.size 85 (bP n)):=bZ (by rw[l];exact(d.o.alloc (.cells (bg H) 134)).drew);have a:Z (Blk wc g.heap.size 134 (bg H)):=bZ (by rw[l];exact(Blk.new g 134 (bg H)).drew);clear l;have n1:Z (w2.heap.size≠w.heap.size):=bZ (by have:=z.o;omega);have n2:Z (g.heap.size≠w.heap.size):=bZ (by have:=r.o;have:=z.o;omega);have n3:Z (w2.heap.size≠w.heap.size+1):=bZ (by have:=z.o;omega);have n4:Z (g.heap.size≠w.heap.size+1):=bZ (by have:=r.o;have:=z.o;omega);go_wp2_with fail;refine eo (S:=(fun w'=>(∀i,w'.cell? (U w2.heap.size i)=(bP n)[i]?)/\(∀i,w'.cell? (U g.heap.size i)=(bg H)[i]?))) (n:=7) (by kernel_rfl) ?_;replace m:=bZ m.o.drew;replace f:=bZ f.o.drew;replace d:=bZ d.o.drew;replace a:=bZ a.o.drew;replace B:=bZ B.o.drew;have c:=EG d.o.cell a.o.cell;unfold bP bg at c;unfold bP bg;refine az (i:=1) (v:=?_) (by kernel_rfl) rfl (by kernel_rfl) (by kernel_rfl) (by kernel_rfl) (fun _ _ _ h=>h) c (Ey ⟨by rfl,?_⟩) ?_;rotate_left
  ·(intro w p;obtain⟨z6,a7⟩:=p;go_simp;try with_reducible rfl)
  try simp only[PT,Y1,Y2,Y3]
  refine az (i:=0) (v:=?_) (by kernel_rfl) rfl (by kernel_rfl) (by kernel_rfl) (by kernel_rfl) (fun _ _ _ h=>h) c (Ey ⟨by rfl,?_⟩) ?_;rotate_left
  ·(intro w p;obtain⟨z6,a7⟩:=p;go_simp;try with_reducible rfl)
  try simp only[PT,Y1,Y2,Y3]
  refine mM (i:=2) (j:=3) rfl rfl (by kernel_rfl) (fun K b=>?_) (fun K b=>?_)
  ·dsimp only[Y1,Y2,Y3];go_simp;refine b _ _ (.inr c) ?_;clear b K
   try simp only[PT,Y1,Y2,Y3]
   refine aM (i:=3) rfl (by kernel_rfl) (fun K b=>?_);dsimp only[Y1,Y2,Y3];rw[if_pos (by rfl)];refine bJ 85 (.tmp 2) (.tmp 71) (by rfl) w.heap.size (by rfl) 85 bN.toList (bP n).toList (by rfl) m.o (by kernel_rfl) (by rfl) (by intro v t;simp[bP] at t;rcases t with rfl | rfl | rfl | rfl | rfl | rfl | rfl | rfl<;>rfl) ?_;intro w6 D u;have f:=bZ (f.o.keep u (by simp));have d:=bZ (d.o.keep u (by simp;exact n1.o));have a:=bZ (a.o.keep u (by simp;exact n2.o));have B:=bZ (B.o.nil.trans u);have c:=EG d.o.cell a.o.cell;unfold bP bg at c;clear u;refine b _ _ (.inr c) ?_;clear b K
   try simp only[PT,Y1,Y2,Y3]
   refine aM (i:=4) rfl (by kernel_rfl) (fun K b=>?_);dsimp only[Y1,Y2,Y3];go_simp;refine b _ _ (.inr c) ?_;clear b K
   try simp only[PT,Y1,Y2,Y3]
   refine aM (i:=5) rfl (by kernel_rfl) (fun K b=>?_);dsimp only[Y1,Y2,Y3];rw[if_pos (by rfl)];refine bJ 134 (.tmp 4) (.tmp 73) (by rfl) (w.heap.size+1) (by rfl) 134 bF.toList (bg H).toList (by rfl) f.o (by kernel_rfl) (by rfl) (by intro v t;simp[bg] at t;rcases t with rfl | rfl | rfl<;>rfl) ?_;intro w7 C4 x;have D:=bZ (D.o.keep x (by simp));have d:=bZ (d.o.keep x (by simp;exact n3.o));have a:=bZ (a.o.keep x (by simp;exact n4.o));have K7:=bZ ((B.o.mono (fun y N=>.inr (by simp at N;omega)):aa [] w _).nil.trans x);have c:=EG d.o.cell a.o.cell;clear x;refine b _ _ (.inr c) ?_;clear b K
   try simp only[PT,Y1,Y2,Y3]
   refine aM (i:=6) rfl (by kernel_rfl) (fun K b=>?_);dsimp only[Y1,Y2,Y3];go_simp;refine b _ _ (.inr c) ?_;clear b K
   try simp only[PT,Y1,Y2,Y3]
   refine cS (by kernel_rfl) ?_ _;go_wp2_with fail;have q2:=D.o.cell;have q4:=C4.o.cell;have KF:aa [] w w7:=K7.o.mono (fun y N=>.inr (by simp at N;omega));exact bodyPost_ret (v:=.tuple #[.agg (bP n),I 1,.agg (bg H),I 0]) (by simp[results,Tryz.results56,go_sem,bP,bg,q2,q4]) rfl ⟨rfl,KF⟩
  dsimp only[Y1,Y2,Y3];rw[if_pos (by rfl)];refine bJ 85 (.tmp 2) (.tmp 71) (by rfl) w.heap.size (by rfl) 85 bN.toList (bP n).toList (by rfl) m.o (by kernel_rfl) (by rfl) (by intro v t;simp[bP] at t;rcases t with rfl | rfl | rfl | rfl | rfl | rfl | rfl | rfl<;>rfl) ?_;intro w6 D u;have f:=bZ (f.o.keep u (by simp));have d:=bZ (d.o.keep u (by simp;exact n1.o));have a:=bZ (a.o.keep u (by simp;exact n2.o));have B:=bZ (B.o.nil.trans u);have c:=EG d.o.cell a.o.cell;unfold bP bg at c;clear u;refine b _ _ (.inr c) ?_;clear b K
  try simp only[PT,Y1,Y2,Y3]
  refine az (i:=4) (v:=?_) (by kernel_rfl) rfl (by kernel_rfl) (by kernel_rfl) (by kernel_rfl) (fun _ _ _ h=>h) c (Ey ⟨by rfl,?_⟩) ?_;rotate_left
  ·(intro w p;obtain⟨z6,a7⟩:=p;go_simp;try with_reducible rfl)
  try simp only[PT,Y1,Y2,Y3]
  refine aM (i:=2) rfl (by kernel_rfl) (fun K b=>?_);dsimp only[Y1,Y2,Y3];go_simp;refine b _ _ (.inr c) ?_;clear b K
  try simp only[PT,Y1,Y2,Y3]
  refine aM (i:=5) rfl (by kernel_rfl) (fun K b=>?_);dsimp only[Y1,Y2,Y3];rw[if_pos (by rfl)];refine bJ 134 (.tmp 4) (.tmp 73) (by rfl) (w.heap.size+1) (by rfl) 134 bF.toList (bg H).toList (by rfl) f.o (by kernel_rfl) (by rfl) (by intro v t;simp[bg] at t;rcases t with rfl | rfl | rfl<;>rfl) ?_;intro w7 C4 x;have D:=bZ (D.o.keep x (by simp));have d:=bZ (d.o.keep x (by simp;exact n3.o));have a:=bZ (a.o.keep x (by simp;exact n4.o));have K7:=bZ ((B.o.mono (fun y N=>.inr (by simp at N;omega)):aa [] w _).nil.trans x);have c:=EG d.o.cell a.o.cell;clear x;refine b _ _ (.inr c) ?_;clear b K
  try simp only[PT,Y1,Y2,Y3]
  refine aM (i:=6) rfl (by kernel_rfl) (fun K b=>?_);dsimp only[Y1,Y2,Y3];go_simp;refine b _ _ (.inr c) ?_;clear b K
  try simp only[PT,Y1,Y2,Y3]
  refine cS (by kernel_rfl) ?_ _;go_wp2_with fail;have q2:=D.o.cell;have q4:=C4.o.cell;have KF:aa [] w w7:=K7.o.mono (fun y N=>.inr (by simp at N;omega));exact bodyPost_ret (v:=.tuple #[.agg (bP n),I 1,.agg (bg H),I 0]) (by simp[results,Tryz.results56,go_sem,bP,bg,q2,q4]) rfl ⟨rfl,KF⟩
end
end Sn
end Go.Proofs.YtmlmfpikncogpaaGreat
